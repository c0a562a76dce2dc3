import Derived.Test.YtkhnemiflpjbpaaC7
namespace Go.Proofs.Ytkhnemiflpjbpaa
open Go.Eng
theorem list_ok (xs : List V) (w : World) (S : BSet) (v : Value) (hv : Rd w S (valsD xs) v) : Calls Try.prog 29 #[v] w (Ret w fun u W => Rd W (Ar w S) (V.d (V.mk 4 0 ⟨#[]⟩ [] xs)) u) := by
  obtain ⟨va, vc, ev, D_v⟩ := rdVs_out (rd_arg hv)
  subst ev
  refine enter Try.func29 rfl Try.ntmps29 (Nat.le_of_ble_eq_true rfl) fun a0 hsz0 hdf0 harg => ?_
  have e0 : sl a0 0 = (.slice va (xs.length) vc) := harg 0 (Nat.le_of_ble_eq_true rfl)
  have kw := Keeps.refl All w
  clear harg
  refine wp_seq_k fun K1 hK1 => ?_
  refine wp_reg All mixed hsz0 hdf0 st_tr trivial ?_
  refine Chain.alloc z25 ?_
  refine Chain.done ⟨by kernel_rfl, fun a2 g W2 hsz2 hdf2 hk hg henv hrest hpsi => ?_⟩
  obtain ⟨⟨b2_2, e2, hb2, own_b2_2⟩, -⟩ := henv
  have lo_b2_2 : w.heap.size ≤ b2_2 := Nat.le_trans kw.size (hg.lo _ _ hb2)
  have own_b2_2 : Own W2 b2_2 [(.int .u8 (0)), (.int .i64 (0)), (.string (⟨#[]⟩)), (.slice none 0 0), (.slice none 0 0)] 25 := own_b2_2
  replace e0 := (hrest 0 rfl).trans e0
  replace D_v := sa_more D_v hk [b2_2] (in_cons (hg.lo _ _ hb2) in_nil)
  replace kw := kw.trans (.of_ext hk)
  clear hrest hk hg hpsi hb2
  refine tail_nil (hK1 _ _ ?_)
  refine wp_seq_k fun K3 hK3 => ?_
  refine wp_reg All mixed hsz2 hdf2 st_tr trivial ?_
  refine Chain.op (φ := Is (.slice va (xs.length) vc)) (st_is _) (sp_move (Has.base rfl e0)) ?_
  refine Chain.op (φ := Is (.agg #[(.int .u8 (4)), (.int .i64 (0)), (.string (⟨#[]⟩)), (.slice none 0 0), (.slice va (xs.length) vc)])) (st_is _) (sp_build (vs := [(0, (.int .u8 (4))), (4, (.slice va (xs.length) vc))]) Try.underlying25 z25 (pl25 Try.underlying25) ⟨rfl, Has.cst, rfl, (Has.loc rfl), trivial⟩ rfl) ?_
  refine Chain.done ⟨by kernel_rfl, fun a4 g W4 hsz4 hdf4 hk hg henv hrest hpsi => ?_⟩
  obtain ⟨e4, -, -⟩ := henv
  replace e2 := (hrest 2 rfl).trans e2
  replace D_v := D_v.ext hk
  have e4 : sl a4 4 = (.agg #[(.int .u8 (4)), (.int .i64 (0)), (.string (⟨#[]⟩)), (.slice none 0 0), (.slice va (xs.length) vc)]) := e4
  replace own_b2_2 := own_b2_2.ext hk
  replace kw := kw.trans (.of_ext hk)
  clear hrest hk hg hpsi
  refine tail_store (b := b2_2) (o := 0) (v := (.agg #[(.int .u8 (4)), (.int .i64 (0)), (.string (⟨#[]⟩)), (.slice none 0 0), (.slice va (xs.length) vc)])) e2 e4 sz25 rfl own_b2_2 (Nat.le_of_ble_eq_true rfl) (all_cons rfl (all_cons rfl (all_cons rfl (all_cons rfl (all_cons rfl all_nil))))) (fun W5 hs own_b2_2 => ?_)
  have own_b2_2 : Own W5 b2_2 [(.int .u8 (4)), (.int .i64 (0)), (.string (⟨#[]⟩)), (.slice none 0 0), (.slice va (xs.length) vc)] 25 := own_b2_2
  replace D_v := sa_store D_v hs (by simp)
  replace kw := keeps_store kw hs lo_b2_2
  clear hs
  refine tail_nil (hK3 _ _ ?_)
  refine wp_ret ?_
  refine (show bodyPost Try.prog Try.f29 _ .ret _ _ from retC (v := (.agg #[(.int .u8 (4)), (.int .i64 (0)), (.string (⟨#[]⟩)), (.slice none 0 0), (.slice va (xs.length) vc)])) rfl hdf4 e2 own_b2_2 agg25 sz25 rfl (fun h => by cases h) rfl ⟨_, rfl, kw, ?_⟩)
  exact sa_ar (rdV_mk (Nat.le_of_ble_eq_true rfl) (rd_nil _) D_v : Rd W5 (SA w S [b2_2]) (V.d (V.mk (4) (0) (⟨#[]⟩) ([]) (xs))) _)

theorem obj_ok (ns : List ByteArray) (xs : List V) (w : World) (S : BSet) (v u : Value) (hv : Rd w S (strsD ns) v) (hu : Rd w S (valsD xs) u) : Calls Try.prog 30 #[v, u] w (Ret w fun u W => Rd W (Ar w S) (V.d (V.mk 5 0 ⟨#[]⟩ ns xs)) u) := by
  obtain ⟨va, vc, ev, D_v⟩ := rdS_out (rd_arg hv)
  subst ev
  obtain ⟨ua, uc, ev, D_u⟩ := rdVs_out (rd_arg hu)
  subst ev
  refine enter Try.func30 rfl Try.ntmps30 (Nat.le_of_ble_eq_true rfl) fun a0 hsz0 hdf0 harg => ?_
  have e0 : sl a0 0 = (.slice va (ns.length) vc) := harg 0 (Nat.le_of_ble_eq_true rfl)
  have e1 : sl a0 1 = (.slice ua (xs.length) uc) := harg 1 (Nat.le_of_ble_eq_true rfl)
  have kw := Keeps.refl All w
  clear harg
  refine wp_seq_k fun K1 hK1 => ?_
  refine wp_reg All mixed hsz0 hdf0 st_tr trivial ?_
  refine Chain.alloc z25 ?_
  refine Chain.done ⟨by kernel_rfl, fun a2 g W2 hsz2 hdf2 hk hg henv hrest hpsi => ?_⟩
  obtain ⟨⟨b4_2, e4, hb4, own_b4_2⟩, -⟩ := henv
  have lo_b4_2 : w.heap.size ≤ b4_2 := Nat.le_trans kw.size (hg.lo _ _ hb4)
  have own_b4_2 : Own W2 b4_2 [(.int .u8 (0)), (.int .i64 (0)), (.string (⟨#[]⟩)), (.slice none 0 0), (.slice none 0 0)] 25 := own_b4_2
  replace e0 := (hrest 0 rfl).trans e0
  replace e1 := (hrest 1 rfl).trans e1
  replace D_v := sa_more D_v hk [b4_2] (in_cons (hg.lo _ _ hb4) in_nil)
  replace D_u := sa_more D_u hk [b4_2] (in_cons (hg.lo _ _ hb4) in_nil)
  replace kw := kw.trans (.of_ext hk)
  clear hrest hk hg hpsi hb4
  refine tail_nil (hK1 _ _ ?_)
  refine wp_seq_k fun K3 hK3 => ?_
  refine wp_reg All mixed hsz2 hdf2 st_tr trivial ?_
  refine Chain.op (φ := Is (.slice va (ns.length) vc)) (st_is _) (sp_move (Has.base rfl e0)) ?_
  refine Chain.op (φ := Is (.slice ua (xs.length) uc)) (st_is _) (sp_move (Has.base rfl e1)) ?_
  refine Chain.op (φ := Is (.agg #[(.int .u8 (5)), (.int .i64 (0)), (.string (⟨#[]⟩)), (.slice va (ns.length) vc), (.slice ua (xs.length) uc)])) (st_is _) (sp_build (vs := [(0, (.int .u8 (5))), (3, (.slice va (ns.length) vc)), (4, (.slice ua (xs.length) uc))]) Try.underlying25 z25 (pl25 Try.underlying25) ⟨rfl, Has.cst, rfl, (Has.loc rfl), rfl, (Has.loc rfl), trivial⟩ rfl) ?_
  refine Chain.done ⟨by kernel_rfl, fun a4 g W4 hsz4 hdf4 hk hg henv hrest hpsi => ?_⟩
  obtain ⟨e7, -, -, -⟩ := henv
  replace e4 := (hrest 4 rfl).trans e4
  replace D_v := D_v.ext hk
  replace D_u := D_u.ext hk
  have e7 : sl a4 7 = (.agg #[(.int .u8 (5)), (.int .i64 (0)), (.string (⟨#[]⟩)), (.slice va (ns.length) vc), (.slice ua (xs.length) uc)]) := e7
  replace own_b4_2 := own_b4_2.ext hk
  replace kw := kw.trans (.of_ext hk)
  clear hrest hk hg hpsi
  refine tail_store (b := b4_2) (o := 0) (v := (.agg #[(.int .u8 (5)), (.int .i64 (0)), (.string (⟨#[]⟩)), (.slice va (ns.length) vc), (.slice ua (xs.length) uc)])) e4 e7 sz25 rfl own_b4_2 (Nat.le_of_ble_eq_true rfl) (all_cons rfl (all_cons rfl (all_cons rfl (all_cons rfl (all_cons rfl all_nil))))) (fun W5 hs own_b4_2 => ?_)
  have own_b4_2 : Own W5 b4_2 [(.int .u8 (5)), (.int .i64 (0)), (.string (⟨#[]⟩)), (.slice va (ns.length) vc), (.slice ua (xs.length) uc)] 25 := own_b4_2
  replace D_v := sa_store D_v hs (by simp)
  replace D_u := sa_store D_u hs (by simp)
  replace kw := keeps_store kw hs lo_b4_2
  clear hs
  refine tail_nil (hK3 _ _ ?_)
  refine wp_ret ?_
  refine (show bodyPost Try.prog Try.f30 _ .ret _ _ from retC (v := (.agg #[(.int .u8 (5)), (.int .i64 (0)), (.string (⟨#[]⟩)), (.slice va (ns.length) vc), (.slice ua (xs.length) uc)])) rfl hdf4 e4 own_b4_2 agg25 sz25 rfl (fun h => by cases h) rfl ⟨_, rfl, kw, ?_⟩)
  exact sa_ar (rdV_mk (Nat.le_of_ble_eq_true rfl) D_v D_u : Rd W5 (SA w S [b4_2]) (V.d (V.mk (5) (0) (⟨#[]⟩) (ns) (xs))) _)

set_option maxHeartbeats 4000000 in
theorem With_ok (x y : V) (name : ByteArray) (hx : x.wt ≤ 1073741824) (hy : y.wt ≤ 1073741824) (hname : name.size ≤ maxLen) (w : World) (S : BSet) (v u : Value) (hS : ∀ b o, S b o → Cln o) (hv : Rd w S x.d v) (hu : Rd w S y.d u) :
    Calls Try.prog 25 #[v, .string name, u] w (Ret w fun r W => ∃ r1, r = .tuple #[r1, .int .i64 (withE x)] ∧ Rd W (Fr w) (withV x name y).d r1) := by
  have hwx := wt_eq x
  have hwl := wts_len x.xs
  have hwn := wtN_len x.ns
  have hlb := lb_le x.ns name
  obtain ⟨cn0a, cn0c, ci0a, ci0c, ev, ht0, D_cn0, D_ci0⟩ := rdV_out (rd_arg hv)
  subst ev
  obtain ⟨cn2a, cn2c, ci2a, ci2c, ev, ht2, D_cn2, D_ci2⟩ := rdV_out (rd_arg hu)
  subst ev
  refine enter Try.func25 rfl Try.ntmps25 (Nat.le_of_ble_eq_true rfl) fun a0 hsz0 hdf0 harg => ?_
  have e0 : sl a0 0 = (.agg #[(.int .u8 (x.k)), (.int .i64 (x.n)), (.string (x.t)), (.slice cn0a (x.ns.length) cn0c), (.slice ci0a (x.xs.length) ci0c)]) := harg 0 (Nat.le_of_ble_eq_true rfl)
  have e1 : sl a0 1 = (.string (name)) := harg 1 (Nat.le_of_ble_eq_true rfl)
  have e2 : sl a0 2 = (.agg #[(.int .u8 (y.k)), (.int .i64 (y.n)), (.string (y.t)), (.slice cn2a (y.ns.length) cn2c), (.slice ci2a (y.xs.length) ci2c)]) := harg 2 (Nat.le_of_ble_eq_true rfl)
  have kw := Keeps.refl All w
  clear harg
  refine wp_seq_k fun K1 hK1 => ?_
  refine wp_reg All mixed hsz0 hdf0 st_tr trivial ?_
  refine Chain.boxOp (v := (.agg #[(.int .u8 (x.k)), (.int .i64 (x.n)), (.string (x.t)), (.slice cn0a (x.ns.length) cn0c), (.slice ci0a (x.xs.length) ci0c)])) (Has.base rfl e0) ?_
  refine Chain.boxOp (v := (.agg #[(.int .u8 (y.k)), (.int .i64 (y.n)), (.string (y.t)), (.slice cn2a (y.ns.length) cn2c), (.slice ci2a (y.xs.length) ci2c)])) (Has.base rfl e2) ?_
  refine Chain.alloc z25 ?_
  refine Chain.op (φ := Is (.int .i64 (0))) (st_is _) (sp_assign Has.cst) ?_
  refine Chain.done ⟨by kernel_rfl, fun a2 g W2 hsz2 hdf2 hk hg henv hrest hpsi => ?_⟩
  obtain ⟨-, ⟨b6_2, e6, hb6, own_b6_2⟩, ⟨b5_2, e5, hb5, own_b5_2⟩, ⟨b3_2, e3, hb3, own_b3_2⟩, -⟩ := henv
  have lo_b6_2 : w.heap.size ≤ b6_2 := Nat.le_trans kw.size (hg.lo _ _ hb6)
  have own_b6_2 : Own W2 b6_2 [(.int .u8 (0)), (.int .i64 (0)), (.string (⟨#[]⟩)), (.slice none 0 0), (.slice none 0 0)] 25 := own_b6_2
  have lo_b5_2 : w.heap.size ≤ b5_2 := Nat.le_trans kw.size (hg.lo _ _ hb5)
  have own_b5_2 : Own W2 b5_2 [(.int .u8 (y.k)), (.int .i64 (y.n)), (.string (y.t)), (.slice cn2a (y.ns.length) cn2c), (.slice ci2a (y.xs.length) ci2c)] 25 := own_b5_2
  have lo_b3_2 : w.heap.size ≤ b3_2 := Nat.le_trans kw.size (hg.lo _ _ hb3)
  have own_b3_2 : Own W2 b3_2 [(.int .u8 (x.k)), (.int .i64 (x.n)), (.string (x.t)), (.slice cn0a (x.ns.length) cn0c), (.slice ci0a (x.xs.length) ci0c)] 25 := own_b3_2
  have ne_b6_2_b5_2 : b6_2 ≠ b5_2 := fun h => by have := hg.inj _ _ _ hb6 (h ▸ hb5); cases this
  have ne_b6_2_b3_2 : b6_2 ≠ b3_2 := fun h => by have := hg.inj _ _ _ hb6 (h ▸ hb3); cases this
  have ne_b5_2_b3_2 : b5_2 ≠ b3_2 := fun h => by have := hg.inj _ _ _ hb5 (h ▸ hb3); cases this
  replace e1 := (hrest 1 rfl).trans e1
  replace D_cn0 := sa_more D_cn0 hk [b6_2, b5_2, b3_2] (in_cons (hg.lo _ _ hb6) (in_cons (hg.lo _ _ hb5) (in_cons (hg.lo _ _ hb3) in_nil)))
  replace D_ci0 := sa_more D_ci0 hk [b6_2, b5_2, b3_2] (in_cons (hg.lo _ _ hb6) (in_cons (hg.lo _ _ hb5) (in_cons (hg.lo _ _ hb3) in_nil)))
  replace D_cn2 := sa_more D_cn2 hk [b6_2, b5_2, b3_2] (in_cons (hg.lo _ _ hb6) (in_cons (hg.lo _ _ hb5) (in_cons (hg.lo _ _ hb3) in_nil)))
  replace D_ci2 := sa_more D_ci2 hk [b6_2, b5_2, b3_2] (in_cons (hg.lo _ _ hb6) (in_cons (hg.lo _ _ hb5) (in_cons (hg.lo _ _ hb3) in_nil)))
  replace kw := kw.trans (.of_ext hk)
  clear hrest hk hg hpsi hb6 hb5 hb3
  refine tail_nil (hK1 _ _ ?_)
  refine wp_seq_k fun K3 hK3 => ?_
  refine wp_seq_k fun K4 hK4 => ?_
  refine wp_reg All mixed hsz2 hdf2 st_tr trivial ?_
  refine Chain.op (φ := Is (.pointer (some ⟨b3_2, 0, none⟩))) (st_is _) (sp_fieldO (Has.base rfl e3) Try.underlying25 rfl sz5 rfl) ?_
  refine Chain.op (φ := Is (.int .u8 (x.k))) (st_is _) (sp_loadO (v := (.int .u8 (x.k))) (Has.loc rfl) own_b3_2 trivial agg5 sz5 (Nat.le_of_ble_eq_true rfl) (fun h => by first | rfl | cases h) rfl) ?_
  refine Chain.op (φ := Is (.bool ((x.k : Int) != (5 : Int)))) (st_is _) (sp_neq (Has.loc rfl) Has.cst) ?_
  refine Chain.done ⟨by kernel_rfl, fun a5 g W5 hsz5 hdf5 hk hg henv hrest hpsi => ?_⟩
  obtain ⟨e16, -, -, -⟩ := henv
  replace e1 := (hrest 1 rfl).trans e1
  replace e6 := (hrest 6 rfl).trans e6
  replace e5 := (hrest 5 rfl).trans e5
  replace e3 := (hrest 3 rfl).trans e3
  replace D_cn0 := D_cn0.ext hk
  replace D_ci0 := D_ci0.ext hk
  replace D_cn2 := D_cn2.ext hk
  replace D_ci2 := D_ci2.ext hk
  have e16 : sl a5 16 = (.bool ((x.k : Int) != (5 : Int))) := e16
  replace own_b6_2 := own_b6_2.ext hk
  replace own_b5_2 := own_b5_2.ext hk
  replace own_b3_2 := own_b3_2.ext hk
  replace kw := kw.trans (.of_ext hk)
  clear hrest hk hg hpsi
  refine tail_nil (hK4 _ _ ?_)
  refine wp_cond_split e16 (fun hc => ?_) (fun hc => ?_)
  · -- T: (x.k : Int) != (5 : Int)
    have hk : x.k ≠ 5 := by simp at hc; omega
    have hwe : withE x = 10 := by rw [withE, if_pos hk]
    have hwv : withV x name y = V.mk 0 0 ⟨#[]⟩ [] [] := by rw [withV, if_pos hk]; rfl
    refine wp_seq_k fun K6 hK6 => ?_
    refine wp_reg All mixed hsz5 hdf5 st_tr trivial ?_
    refine Chain.op (φ := Is (.agg #[(.int .u8 (0)), (.int .i64 (0)), (.string (⟨#[]⟩)), (.slice none 0 0), (.slice none 0 0)])) (st_is _) (sp_build (vs := []) Try.underlying25 z25 (pl25 Try.underlying25) trivial rfl) ?_
    refine Chain.done ⟨by kernel_rfl, fun a7 g W7 hsz7 hdf7 hk hg henv hrest hpsi => ?_⟩
    obtain ⟨e17, -⟩ := henv
    replace e6 := (hrest 6 rfl).trans e6
    replace D_cn0 := D_cn0.ext hk
    replace D_ci0 := D_ci0.ext hk
    replace D_cn2 := D_cn2.ext hk
    replace D_ci2 := D_ci2.ext hk
    have e17 : sl a7 17 = (.agg #[(.int .u8 (0)), (.int .i64 (0)), (.string (⟨#[]⟩)), (.slice none 0 0), (.slice none 0 0)]) := e17
    replace own_b6_2 := own_b6_2.ext hk
    replace own_b5_2 := own_b5_2.ext hk
    replace own_b3_2 := own_b3_2.ext hk
    replace kw := kw.trans (.of_ext hk)
    clear hrest hk hg hpsi
    refine tail_store (b := b6_2) (o := 0) (v := (.agg #[(.int .u8 (0)), (.int .i64 (0)), (.string (⟨#[]⟩)), (.slice none 0 0), (.slice none 0 0)])) e6 e17 sz25 rfl own_b6_2 (Nat.le_of_ble_eq_true rfl) (all_cons rfl (all_cons rfl (all_cons rfl (all_cons rfl (all_cons rfl all_nil))))) (fun W8 hs own_b6_2 => ?_)
    have own_b6_2 : Own W8 b6_2 [(.int .u8 (0)), (.int .i64 (0)), (.string (⟨#[]⟩)), (.slice none 0 0), (.slice none 0 0)] 25 := own_b6_2
    replace own_b5_2 := own_store own_b5_2 hs ne_b6_2_b5_2.symm
    replace own_b3_2 := own_store own_b3_2 hs ne_b6_2_b3_2.symm
    replace D_cn0 := sa_store D_cn0 hs (by simp)
    replace D_ci0 := sa_store D_ci0 hs (by simp)
    replace D_cn2 := sa_store D_cn2 hs (by simp)
    replace D_ci2 := sa_store D_ci2 hs (by simp)
    replace kw := keeps_store kw hs lo_b6_2
    clear hs
    refine tail_assign (v := (.int .i64 (10))) rfl (by rw [hsz7]; exact Nat.le_of_ble_eq_true rfl) (fun a9 hsz9 hdf9 e7 hr => ?_)
    replace hsz9 := hsz9.trans hsz7; replace hdf9 := hdf9.trans hdf7
    replace e6 := (hr 6 (by decide)).trans e6
    replace e17 := (hr 17 (by decide)).trans e17
    clear hr
    refine tail_nil (hK6 _ _ ?_)
    refine wp_ret ?_
    refine (show bodyPost Try.prog Try.f25 _ .ret _ _ from retCT (v := (.agg #[(.int .u8 (0)), (.int .i64 (0)), (.string (⟨#[]⟩)), (.slice none 0 0), (.slice none 0 0)])) rfl hdf9 e6 own_b6_2 agg25 sz25 rfl (fun h => by cases h) rfl e7 ⟨_, rfl, kw, ?_⟩)
    refine ⟨_, by simp only [hwe]; rfl, ?_⟩
    rw [hwv]
    exact sf_fr (rdV_mk (Nat.le_of_ble_eq_true rfl) (rd_nil _) (rd_nil _) : Rd W8 (SF w [b6_2, b5_2, b3_2]) (V.d (V.mk (0) (0) (⟨#[]⟩) ([]) ([]))) _)
  · -- E: (x.k : Int) != (5 : Int)
    have hk : ¬ x.k ≠ 5 := by simp at hc; omega
    refine wp_skip (hK3 _ _ ?_)
    refine wp_seq_k fun K10 hK10 => ?_
    refine wp_seq_k fun K11 hK11 => ?_
    refine wp_reg All mixed hsz5 hdf5 st_tr trivial ?_
    refine Chain.op (φ := Is (.pointer (some ⟨b3_2, 3, none⟩))) (st_is _) (sp_fieldO (Has.base rfl e3) Try.underlying25 rfl sz22 rfl) ?_
    refine Chain.op (φ := Is (.slice cn0a (x.ns.length) cn0c)) (st_is _) (sp_loadO (v := (.slice cn0a (x.ns.length) cn0c)) (Has.loc rfl) own_b3_2 trivial agg22 sz22 (Nat.le_of_ble_eq_true rfl) (fun h => by first | rfl | cases h) rfl) ?_
    refine Chain.op (φ := Is (.int .i64 (x.ns.length))) (st_is _) (sp_lenSs Try.underlying22 ((Has.loc rfl).dat D_cn0 sub_all)) ?_
    refine Chain.op (φ := Is (.pointer (some ⟨b3_2, 4, none⟩))) (st_is _) (sp_fieldO (Has.base rfl e3) Try.underlying25 rfl sz23 rfl) ?_
    refine Chain.op (φ := Is (.slice ci0a (x.xs.length) ci0c)) (st_is _) (sp_loadO (v := (.slice ci0a (x.xs.length) ci0c)) (Has.loc rfl) own_b3_2 trivial agg23 sz23 (Nat.le_of_ble_eq_true rfl) (fun h => by first | rfl | cases h) rfl) ?_
    refine Chain.op (φ := Is (.int .i64 (x.xs.length))) (st_is _) (sp_lenVs Try.underlying23 ((Has.loc rfl).dat D_ci0 sub_all)) ?_
    refine Chain.op (φ := Is (.bool ((x.ns.length : Int) != (x.xs.length : Int)))) (st_is _) (sp_neq (Has.loc rfl) (Has.loc rfl)) ?_
    refine Chain.op (φ := Is (.bool ((x.ns.length : Int) != (x.xs.length : Int)))) (st_is _) (sp_move (Has.loc rfl)) ?_
    refine Chain.opE (t := 25) (x := (x.ns.length : Int) != (x.xs.length : Int)) (φ := Is (.pointer (some ⟨b3_2, 3, none⟩))) rfl (Has.loc rfl) (st_is _) (fun hg => sp_fieldO (Has.base rfl e3) Try.underlying25 rfl sz22 rfl) ?_
    refine Chain.opE (t := 25) (x := (x.ns.length : Int) != (x.xs.length : Int)) (φ := Is (.slice cn0a (x.ns.length) cn0c)) rfl (Has.loc rfl) (st_is _) (fun hg => sp_loadO (v := (.slice cn0a (x.ns.length) cn0c)) ((Has.loc rfl).undE hg) own_b3_2 trivial agg22 sz22 (Nat.le_of_ble_eq_true rfl) (fun h => by first | rfl | cases h) rfl) ?_
    refine Chain.opE (t := 25) (x := (x.ns.length : Int) != (x.xs.length : Int)) (φ := Is (.bool (asc x.ns))) rfl (Has.loc rfl) (st_is _) (fun hg => sp_call1 (φ1 := IsD (SA w S [b6_2, b5_2, b3_2]) (strsD (x.ns))) ent44 (((Has.loc rfl).undE hg).dat D_cn0 sub_all) (fun g u1 W hk hgk h1 => ascending_ok (x.ns) W _ _ h1)) ?_
    refine Chain.opE (t := 25) (x := (x.ns.length : Int) != (x.xs.length : Int)) (φ := Is (.bool (!(asc x.ns)))) rfl (Has.loc rfl) (st_is _) (fun hg => sp_not ((Has.loc rfl).undE hg)) ?_
    refine Chain.op (φ := Is (.bool (((x.ns.length : Int) != (x.xs.length : Int)) || (!(asc x.ns))))) (st_is _) (sp_or (Has.loc rfl) ((Has.loc rfl).weak fun hq => hq)) ?_
    refine Chain.done ⟨by kernel_rfl, fun a12 g W12 hsz12 hdf12 hk hg henv hrest hpsi => ?_⟩
    obtain ⟨e30, -, -, -, -, -, -, -, -, -, -, -, -, -⟩ := henv
    replace e1 := (hrest 1 rfl).trans e1
    replace e6 := (hrest 6 rfl).trans e6
    replace e5 := (hrest 5 rfl).trans e5
    replace e3 := (hrest 3 rfl).trans e3
    replace D_cn0 := D_cn0.ext hk
    replace D_ci0 := D_ci0.ext hk
    replace D_cn2 := D_cn2.ext hk
    replace D_ci2 := D_ci2.ext hk
    have e30 : sl a12 30 = (.bool (((x.ns.length : Int) != (x.xs.length : Int)) || (!(asc x.ns)))) := e30
    replace own_b6_2 := own_b6_2.ext hk
    replace own_b5_2 := own_b5_2.ext hk
    replace own_b3_2 := own_b3_2.ext hk
    replace kw := kw.trans (.of_ext hk)
    clear hrest hk hg hpsi
    refine tail_nil (hK11 _ _ ?_)
    refine wp_cond_split e30 (fun hc => ?_) (fun hc => ?_)
    · -- T: ((x.ns.length : Int) != (x.xs.length : Int)) || (!(asc x.ns))
      have hl : x.ns.length ≠ x.xs.length ∨ asc x.ns = false := by rcases (Bool.or_eq_true _ _).mp hc with h | h; exact .inl (by simp at h; omega); exact .inr (by simpa using h)
      have hwe : withE x = 3 := by rw [withE, if_neg hk, if_pos hl]
      have hwv : withV x name y = V.mk 0 0 ⟨#[]⟩ [] [] := by rw [withV, if_neg hk, if_pos hl]; rfl
      refine wp_seq_k fun K13 hK13 => ?_
      refine wp_reg All mixed hsz12 hdf12 st_tr trivial ?_
      refine Chain.op (φ := Is (.agg #[(.int .u8 (0)), (.int .i64 (0)), (.string (⟨#[]⟩)), (.slice none 0 0), (.slice none 0 0)])) (st_is _) (sp_build (vs := []) Try.underlying25 z25 (pl25 Try.underlying25) trivial rfl) ?_
      refine Chain.done ⟨by kernel_rfl, fun a14 g W14 hsz14 hdf14 hk hg henv hrest hpsi => ?_⟩
      obtain ⟨e31, -⟩ := henv
      replace e6 := (hrest 6 rfl).trans e6
      replace D_cn0 := D_cn0.ext hk
      replace D_ci0 := D_ci0.ext hk
      replace D_cn2 := D_cn2.ext hk
      replace D_ci2 := D_ci2.ext hk
      have e31 : sl a14 31 = (.agg #[(.int .u8 (0)), (.int .i64 (0)), (.string (⟨#[]⟩)), (.slice none 0 0), (.slice none 0 0)]) := e31
      replace own_b6_2 := own_b6_2.ext hk
      replace own_b5_2 := own_b5_2.ext hk
      replace own_b3_2 := own_b3_2.ext hk
      replace kw := kw.trans (.of_ext hk)
      clear hrest hk hg hpsi
      refine tail_store (b := b6_2) (o := 0) (v := (.agg #[(.int .u8 (0)), (.int .i64 (0)), (.string (⟨#[]⟩)), (.slice none 0 0), (.slice none 0 0)])) e6 e31 sz25 rfl own_b6_2 (Nat.le_of_ble_eq_true rfl) (all_cons rfl (all_cons rfl (all_cons rfl (all_cons rfl (all_cons rfl all_nil))))) (fun W15 hs own_b6_2 => ?_)
      have own_b6_2 : Own W15 b6_2 [(.int .u8 (0)), (.int .i64 (0)), (.string (⟨#[]⟩)), (.slice none 0 0), (.slice none 0 0)] 25 := own_b6_2
      replace own_b5_2 := own_store own_b5_2 hs ne_b6_2_b5_2.symm
      replace own_b3_2 := own_store own_b3_2 hs ne_b6_2_b3_2.symm
      replace D_cn0 := sa_store D_cn0 hs (by simp)
      replace D_ci0 := sa_store D_ci0 hs (by simp)
      replace D_cn2 := sa_store D_cn2 hs (by simp)
      replace D_ci2 := sa_store D_ci2 hs (by simp)
      replace kw := keeps_store kw hs lo_b6_2
      clear hs
      refine tail_assign (v := (.int .i64 (3))) rfl (by rw [hsz14]; exact Nat.le_of_ble_eq_true rfl) (fun a16 hsz16 hdf16 e7 hr => ?_)
      replace hsz16 := hsz16.trans hsz14; replace hdf16 := hdf16.trans hdf14
      replace e6 := (hr 6 (by decide)).trans e6
      replace e31 := (hr 31 (by decide)).trans e31
      clear hr
      refine tail_nil (hK13 _ _ ?_)
      refine wp_ret ?_
      refine (show bodyPost Try.prog Try.f25 _ .ret _ _ from retCT (v := (.agg #[(.int .u8 (0)), (.int .i64 (0)), (.string (⟨#[]⟩)), (.slice none 0 0), (.slice none 0 0)])) rfl hdf16 e6 own_b6_2 agg25 sz25 rfl (fun h => by cases h) rfl e7 ⟨_, rfl, kw, ?_⟩)
      refine ⟨_, by simp only [hwe]; rfl, ?_⟩
      rw [hwv]
      exact sf_fr (rdV_mk (Nat.le_of_ble_eq_true rfl) (rd_nil _) (rd_nil _) : Rd W15 (SF w [b6_2, b5_2, b3_2]) (V.d (V.mk (0) (0) (⟨#[]⟩) ([]) ([]))) _)
    · -- E: ((x.ns.length : Int) != (x.xs.length : Int)) || (!(asc x.ns))
      have hlen : x.ns.length = x.xs.length := by have h := (Bool.or_eq_false_iff.1 hc).1; simp at h; omega
      have hasc : asc x.ns = true := by simpa using (Bool.or_eq_false_iff.1 hc).2
      have hl : ¬ (x.ns.length ≠ x.xs.length ∨ asc x.ns = false) := by rintro (h | h); exact h hlen; rw [hasc] at h; cases h
      have hwe : withE x = 0 := by rw [withE, if_neg hk, if_neg hl]
      refine wp_skip (hK10 _ _ ?_)
      refine wp_seq_k fun K17 hK17 => ?_
      refine wp_reg All mixed hsz12 hdf12 st_tr trivial ?_
      refine Chain.op (φ := Is (.pointer (some ⟨b3_2, 3, none⟩))) (st_is _) (sp_fieldO (Has.base rfl e3) Try.underlying25 rfl sz22 rfl) ?_
      refine Chain.op (φ := Is (.slice cn0a (x.ns.length) cn0c)) (st_is _) (sp_loadO (v := (.slice cn0a (x.ns.length) cn0c)) (Has.loc rfl) own_b3_2 trivial agg22 sz22 (Nat.le_of_ble_eq_true rfl) (fun h => by first | rfl | cases h) rfl) ?_
      refine Chain.op (φ := Is (.string (name))) (st_is _) (sp_move (Has.base rfl e1)) ?_
      refine Chain.op (φ := Is (.tuple #[(.int .i64 (((lb x.ns name : Nat) : Int))), (.bool (decide (x.ns[lb x.ns name]? = some name)))])) (st_is _) (sp_call2 (φ1 := IsD (SA w S [b6_2, b5_2, b3_2]) (strsD (x.ns))) (φ2 := Is (.string (name))) ent42 ((Has.loc rfl).dat D_cn0 sub_all) (Has.loc rfl) (fun g u1 u2 W hk hgk h1 h2 => by have h2 : u2 = _ := h2; subst u2; exact (find_ok (x.ns) (name) (by omega) W _ _ h1).mono (fun _ _ ⟨v, h1, h2, h3⟩ => ⟨v, h1, h2, by rw [h3]; simp [findI, findB, hasc]; rfl⟩))) ?_
      refine Chain.op (φ := Is (.tuple #[(.int .i64 (((lb x.ns name : Nat) : Int))), (.bool (decide (x.ns[lb x.ns name]? = some name)))])) (st_is _) (sp_move (Has.loc rfl)) ?_
      refine Chain.op (φ := Is (.int .i64 (((lb x.ns name : Nat) : Int)))) (st_is _) (sp_extT (Has.loc rfl) rfl) ?_
      refine Chain.op (φ := Is (.bool (decide (x.ns[lb x.ns name]? = some name)))) (st_is _) (sp_extT (Has.loc rfl) rfl) ?_
      refine Chain.op (φ := Is (.int .i64 (((lb x.ns name : Nat) : Int)))) (st_is _) (sp_assign (Has.loc rfl)) ?_
      refine Chain.op (φ := Is (.bool (decide (x.ns[lb x.ns name]? = some name)))) (st_is _) (sp_assign (Has.loc rfl)) ?_
      refine Chain.done ⟨by kernel_rfl, fun a18 g W18 hsz18 hdf18 hk hg henv hrest hpsi => ?_⟩
      obtain ⟨e9, e8, -, -, -, -, -, -, -, -⟩ := henv
      replace e1 := (hrest 1 rfl).trans e1
      replace e6 := (hrest 6 rfl).trans e6
      replace e5 := (hrest 5 rfl).trans e5
      replace e3 := (hrest 3 rfl).trans e3
      replace D_cn0 := D_cn0.ext hk
      replace D_ci0 := D_ci0.ext hk
      replace D_cn2 := D_cn2.ext hk
      replace D_ci2 := D_ci2.ext hk
      have e8 : sl a18 8 = (.int .i64 (((lb x.ns name : Nat) : Int))) := e8
      have e9 : sl a18 9 = (.bool (decide (x.ns[lb x.ns name]? = some name))) := e9
      replace own_b6_2 := own_b6_2.ext hk
      replace own_b5_2 := own_b5_2.ext hk
      replace own_b3_2 := own_b3_2.ext hk
      replace kw := kw.trans (.of_ext hk)
      clear hrest hk hg hpsi
      refine tail_nil (hK17 _ _ ?_)
      refine wp_seq_k fun K19 hK19 => ?_
      refine wp_reg All mixed hsz18 hdf18 st_tr trivial ?_
      refine Chain.op (φ := Is (.int .i64 (((lb x.ns name : Nat) : Int)))) (st_is _) (sp_move (Has.base rfl e8)) ?_
      refine Chain.op (φ := Is (.int .i64 (((lb x.ns name : Nat) : Int)))) (st_is _) (sp_assign (Has.loc rfl)) ?_
      refine Chain.done ⟨by kernel_rfl, fun a20 g W20 hsz20 hdf20 hk hg henv hrest hpsi => ?_⟩
      obtain ⟨e10, -, -⟩ := henv
      replace e1 := (hrest 1 rfl).trans e1
      replace e6 := (hrest 6 rfl).trans e6
      replace e5 := (hrest 5 rfl).trans e5
      replace e3 := (hrest 3 rfl).trans e3
      replace e8 := (hrest 8 rfl).trans e8
      replace e9 := (hrest 9 rfl).trans e9
      replace D_cn0 := D_cn0.ext hk
      replace D_ci0 := D_ci0.ext hk
      replace D_cn2 := D_cn2.ext hk
      replace D_ci2 := D_ci2.ext hk
      have e10 : sl a20 10 = (.int .i64 (((lb x.ns name : Nat) : Int))) := e10
      replace own_b6_2 := own_b6_2.ext hk
      replace own_b5_2 := own_b5_2.ext hk
      replace own_b3_2 := own_b3_2.ext hk
      replace kw := kw.trans (.of_ext hk)
      clear hrest hk hg hpsi
      refine tail_nil (hK19 _ _ ?_)
      refine wp_seq_k fun K21 hK21 => ?_
      refine wp_seq_k fun K22 hK22 => ?_
      refine wp_reg All mixed hsz20 hdf20 st_tr trivial ?_
      refine Chain.op (φ := Is (.bool (decide (x.ns[lb x.ns name]? = some name)))) (st_is _) (sp_move (Has.base rfl e9)) ?_
      refine Chain.done ⟨by kernel_rfl, fun a23 g W23 hsz23 hdf23 hk hg henv hrest hpsi => ?_⟩
      obtain ⟨e40, -⟩ := henv
      replace e1 := (hrest 1 rfl).trans e1
      replace e6 := (hrest 6 rfl).trans e6
      replace e5 := (hrest 5 rfl).trans e5
      replace e3 := (hrest 3 rfl).trans e3
      replace e8 := (hrest 8 rfl).trans e8
      replace e10 := (hrest 10 rfl).trans e10
      replace D_cn0 := D_cn0.ext hk
      replace D_ci0 := D_ci0.ext hk
      replace D_cn2 := D_cn2.ext hk
      replace D_ci2 := D_ci2.ext hk
      have e40 : sl a23 40 = (.bool (decide (x.ns[lb x.ns name]? = some name))) := e40
      replace own_b6_2 := own_b6_2.ext hk
      replace own_b5_2 := own_b5_2.ext hk
      replace own_b3_2 := own_b3_2.ext hk
      replace kw := kw.trans (.of_ext hk)
      clear hrest hk hg hpsi
      refine tail_nil (hK22 _ _ ?_)
      refine wp_cond_split e40 (fun hc => ?_) (fun hc => ?_)
      · -- T: decide (x.ns[lb x.ns name]? = some name)
        have hfd := of_decide_eq_true hc
        have hlb2 : lb x.ns name < x.ns.length := (List.getElem?_eq_some_iff.1 hfd).1
        have hwv : withV x name y = V.mk x.k x.n x.t (x.ns.take (lb x.ns name) ++ [name] ++ x.ns.drop (lb x.ns name + 1)) (x.xs.take (lb x.ns name) ++ [y] ++ x.xs.drop (lb x.ns name + 1)) := by rw [withV, if_neg hk, if_neg hl, withR, if_pos hfd]
        refine wp_reg All mixed hsz23 hdf23 st_tr trivial ?_
        refine Chain.op (φ := Is (.int .i64 (((lb x.ns name : Nat) : Int)))) (st_is _) (sp_move (Has.base rfl e10)) ?_
        refine Chain.op (φ := Is (.int .i64 ((((lb x.ns name : Nat) : Int) : Int) + (1 : Int)))) (st_is _) (sp_add (Has.loc rfl) Has.cst (i64_in (by omega))) ?_
        refine Chain.op (φ := Is (.int .i64 ((((lb x.ns name : Nat) : Int) : Int) + (1 : Int)))) (st_is _) (sp_assign (Has.loc rfl)) ?_
        refine Chain.done ⟨by kernel_rfl, fun a24 g W24 hsz24 hdf24 hk hg henv hrest hpsi => ?_⟩
        obtain ⟨e10, -, -, -⟩ := henv
        replace e1 := (hrest 1 rfl).trans e1
        replace e6 := (hrest 6 rfl).trans e6
        replace e5 := (hrest 5 rfl).trans e5
        replace e3 := (hrest 3 rfl).trans e3
        replace e8 := (hrest 8 rfl).trans e8
        replace D_cn0 := D_cn0.ext hk
        replace D_ci0 := D_ci0.ext hk
        replace D_cn2 := D_cn2.ext hk
        replace D_ci2 := D_ci2.ext hk
        have e10 : sl a24 10 = (.int .i64 ((((lb x.ns name : Nat) : Int) : Int) + (1 : Int))) := e10
        replace own_b6_2 := own_b6_2.ext hk
        replace own_b5_2 := own_b5_2.ext hk
        replace own_b3_2 := own_b3_2.ext hk
        replace kw := kw.trans (.of_ext hk)
        clear hrest hk hg hpsi
        refine tail_nil (hK21 _ _ ?_)
        refine wp_seq_k fun K25 hK25 => ?_
        refine wp_reg All mixed hsz24 hdf24 st_tr trivial ?_
        refine Chain.op (φ := Is (.pointer (some ⟨b3_2, 0, none⟩))) (st_is _) (sp_fieldO (Has.base rfl e3) Try.underlying25 rfl sz5 rfl) ?_
        refine Chain.op (φ := Is (.int .u8 (x.k))) (st_is _) (sp_loadO (v := (.int .u8 (x.k))) (Has.loc rfl) own_b3_2 trivial agg5 sz5 (Nat.le_of_ble_eq_true rfl) (fun h => by first | rfl | cases h) rfl) ?_
        refine Chain.op (φ := Is (.pointer (some ⟨b3_2, 1, none⟩))) (st_is _) (sp_fieldO (Has.base rfl e3) Try.underlying25 rfl sz2 rfl) ?_
        refine Chain.op (φ := Is (.int .i64 (x.n))) (st_is _) (sp_loadO (v := (.int .i64 (x.n))) (Has.loc rfl) own_b3_2 trivial agg2 sz2 (Nat.le_of_ble_eq_true rfl) (fun h => by first | rfl | cases h) rfl) ?_
        refine Chain.op (φ := Is (.pointer (some ⟨b3_2, 2, none⟩))) (st_is _) (sp_fieldO (Has.base rfl e3) Try.underlying25 rfl sz9 rfl) ?_
        refine Chain.op (φ := Is (.string (x.t))) (st_is _) (sp_loadO (v := (.string (x.t))) (Has.loc rfl) own_b3_2 trivial agg9 sz9 (Nat.le_of_ble_eq_true rfl) (fun h => by first | rfl | cases h) rfl) ?_
        refine Chain.op (φ := Is (.agg #[(.int .u8 (x.k)), (.int .i64 (x.n)), (.string (x.t)), (.slice none 0 0), (.slice none 0 0)])) (st_is _) (sp_build (vs := [(0, (.int .u8 (x.k))), (1, (.int .i64 (x.n))), (2, (.string (x.t)))]) Try.underlying25 z25 (pl25 Try.underlying25) ⟨rfl, (Has.loc rfl), rfl, (Has.loc rfl), rfl, (Has.loc rfl), trivial⟩ rfl) ?_
        refine Chain.alloc z25 ?_
        refine Chain.done ⟨by kernel_rfl, fun a26 g W26 hsz26 hdf26 hk hg henv hrest hpsi => ?_⟩
        obtain ⟨⟨b11_26, e11, hb11, own_b11_26⟩, e49, -, -, -, -, -, -, -⟩ := henv
        have lo_b11_26 : w.heap.size ≤ b11_26 := Nat.le_trans kw.size (hg.lo _ _ hb11)
        have ne_b6_2_b11_26 : b6_2 ≠ b11_26 := Nat.ne_of_lt (Nat.lt_of_lt_of_le own_b6_2.lt (hg.lo _ _ hb11))
        have ne_b5_2_b11_26 : b5_2 ≠ b11_26 := Nat.ne_of_lt (Nat.lt_of_lt_of_le own_b5_2.lt (hg.lo _ _ hb11))
        have ne_b3_2_b11_26 : b3_2 ≠ b11_26 := Nat.ne_of_lt (Nat.lt_of_lt_of_le own_b3_2.lt (hg.lo _ _ hb11))
        have own_b11_26 : Own W26 b11_26 [(.int .u8 (0)), (.int .i64 (0)), (.string (⟨#[]⟩)), (.slice none 0 0), (.slice none 0 0)] 25 := own_b11_26
        replace e1 := (hrest 1 rfl).trans e1
        replace e6 := (hrest 6 rfl).trans e6
        replace e5 := (hrest 5 rfl).trans e5
        replace e3 := (hrest 3 rfl).trans e3
        replace e8 := (hrest 8 rfl).trans e8
        replace e10 := (hrest 10 rfl).trans e10
        replace D_cn0 := sa_more D_cn0 hk [b11_26] (in_cons (hg.lo _ _ hb11) in_nil)
        replace D_ci0 := sa_more D_ci0 hk [b11_26] (in_cons (hg.lo _ _ hb11) in_nil)
        replace D_cn2 := sa_more D_cn2 hk [b11_26] (in_cons (hg.lo _ _ hb11) in_nil)
        replace D_ci2 := sa_more D_ci2 hk [b11_26] (in_cons (hg.lo _ _ hb11) in_nil)
        have e49 : sl a26 49 = (.agg #[(.int .u8 (x.k)), (.int .i64 (x.n)), (.string (x.t)), (.slice none 0 0), (.slice none 0 0)]) := e49
        replace own_b6_2 := own_b6_2.ext hk
        replace own_b5_2 := own_b5_2.ext hk
        replace own_b3_2 := own_b3_2.ext hk
        replace kw := kw.trans (.of_ext hk)
        clear hrest hk hg hpsi hb11
        refine tail_store (b := b11_26) (o := 0) (v := (.agg #[(.int .u8 (x.k)), (.int .i64 (x.n)), (.string (x.t)), (.slice none 0 0), (.slice none 0 0)])) e11 e49 sz25 rfl own_b11_26 (Nat.le_of_ble_eq_true rfl) (all_cons rfl (all_cons rfl (all_cons rfl (all_cons rfl (all_cons rfl all_nil))))) (fun W27 hs own_b11_26 => ?_)
        have own_b11_26 : Own W27 b11_26 [(.int .u8 (x.k)), (.int .i64 (x.n)), (.string (x.t)), (.slice none 0 0), (.slice none 0 0)] 25 := own_b11_26
        replace own_b6_2 := own_store own_b6_2 hs ne_b6_2_b11_26
        replace own_b5_2 := own_store own_b5_2 hs ne_b5_2_b11_26
        replace own_b3_2 := own_store own_b3_2 hs ne_b3_2_b11_26
        replace D_cn0 := sa_store D_cn0 hs (by simp)
        replace D_ci0 := sa_store D_ci0 hs (by simp)
        replace D_cn2 := sa_store D_cn2 hs (by simp)
        replace D_ci2 := sa_store D_ci2 hs (by simp)
        replace kw := keeps_store kw hs lo_b11_26
        clear hs
        refine tail_nil (hK25 _ _ ?_)
        refine wp_seq_k fun K28 hK28 => ?_
        refine wp_seq_k fun K29 hK29 => ?_
        refine wp_reg All mixed hsz26 hdf26 st_tr trivial ?_
        refine Chain.op (φ := Is (.int .i64 (((lb x.ns name : Nat) : Int)))) (st_is _) (sp_move (Has.base rfl e8)) ?_
        refine Chain.op (φ := Is (.int .i64 (0))) (st_is _) (sp_move Has.cst) ?_
        refine Chain.done ⟨by kernel_rfl, fun a30 g W30 hsz30 hdf30 hk hg henv hrest hpsi => ?_⟩
        obtain ⟨e51, e50, -⟩ := henv
        replace e1 := (hrest 1 rfl).trans e1
        replace e6 := (hrest 6 rfl).trans e6
        replace e5 := (hrest 5 rfl).trans e5
        replace e3 := (hrest 3 rfl).trans e3
        replace e10 := (hrest 10 rfl).trans e10
        replace e11 := (hrest 11 rfl).trans e11
        replace D_cn0 := D_cn0.ext hk
        replace D_ci0 := D_ci0.ext hk
        replace D_cn2 := D_cn2.ext hk
        replace D_ci2 := D_ci2.ext hk
        have e50 : sl a30 50 = (.int .i64 (((lb x.ns name : Nat) : Int))) := e50
        have e51 : sl a30 51 = (.int .i64 (0)) := e51
        replace own_b6_2 := own_b6_2.ext hk
        replace own_b5_2 := own_b5_2.ext hk
        replace own_b3_2 := own_b3_2.ext hk
        replace own_b11_26 := own_b11_26.ext hk
        replace kw := kw.trans (.of_ext hk)
        clear hrest hk hg hpsi
        refine tail_nil (hK29 _ _ ?_)
        refine wp_block ?_
        have A_ar31 : Arr W30 w.heap.size 9 1 (SF w (blks none ++ (b11_26 :: (b6_2 :: (b5_2 :: (b3_2 :: [])))))) (List.map D.str ([])) (.slice none 0 0) none := arr_nil _ _ _ _ _
        replace D_cn0 : Rd W30 (SA w S (blks none ++ (b11_26 :: (b6_2 :: (b5_2 :: (b3_2 :: [])))))) (strsD (x.ns)) (.slice cn0a (x.ns.length) cn0c) := D_cn0
        replace D_ci0 : Rd W30 (SA w S (blks none ++ (b11_26 :: (b6_2 :: (b5_2 :: (b3_2 :: [])))))) (valsD (x.xs)) (.slice ci0a (x.xs.length) ci0c) := D_ci0
        replace D_cn2 : Rd W30 (SA w S (blks none ++ (b11_26 :: (b6_2 :: (b5_2 :: (b3_2 :: [])))))) (strsD (y.ns)) (.slice cn2a (y.ns.length) cn2c) := D_cn2
        replace D_ci2 : Rd W30 (SA w S (blks none ++ (b11_26 :: (b6_2 :: (b5_2 :: (b3_2 :: [])))))) (valsD (y.xs)) (.slice ci2a (y.xs.length) ci2c) := D_ci2
        have A_ar32 : Arr W30 w.heap.size 25 5 (SF w (blks (none) ++ (blks none ++ (b11_26 :: (b6_2 :: (b5_2 :: (b3_2 :: []))))))) (List.map V.d ([])) (.slice none 0 0) (none) := arr_nil _ _ _ _ _
        replace D_cn0 : Rd W30 (SA w S (blks (none) ++ (blks none ++ (b11_26 :: (b6_2 :: (b5_2 :: (b3_2 :: []))))))) (strsD (x.ns)) (.slice cn0a (x.ns.length) cn0c) := D_cn0
        replace D_ci0 : Rd W30 (SA w S (blks (none) ++ (blks none ++ (b11_26 :: (b6_2 :: (b5_2 :: (b3_2 :: []))))))) (valsD (x.xs)) (.slice ci0a (x.xs.length) ci0c) := D_ci0
        replace D_cn2 : Rd W30 (SA w S (blks (none) ++ (blks none ++ (b11_26 :: (b6_2 :: (b5_2 :: (b3_2 :: []))))))) (strsD (y.ns)) (.slice cn2a (y.ns.length) cn2c) := D_cn2
        replace D_ci2 : Rd W30 (SA w S (blks (none) ++ (blks none ++ (b11_26 :: (b6_2 :: (b5_2 :: (b3_2 :: []))))))) (valsD (y.xs)) (.slice ci2a (y.xs.length) ci2c) := D_ci2
        replace A_ar31 : Arr W30 w.heap.size 9 1 (SF w (blks (none) ++ (blks none ++ (b11_26 :: (b6_2 :: (b5_2 :: (b3_2 :: []))))))) (List.map D.str ([])) (.slice none 0 0) none := A_ar31
        refine wp_for (lb x.ns name) (fun k a W => ∃ (va3_33 : Value), ∃ (hd3_33 : Option Nat), ∃ (va4_33 : Value), ∃ (hd4_33 : Option Nat), a.tmps.size = 119 ∧ a.defers = [] ∧ Keeps All w W ∧ sl a 1 = (.string (name)) ∧ sl a 3 = (.pointer (some ⟨b3_2, 0, none⟩)) ∧ sl a 5 = (.pointer (some ⟨b5_2, 0, none⟩)) ∧ sl a 6 = (.pointer (some ⟨b6_2, 0, none⟩)) ∧ sl a 10 = (.int .i64 ((((lb x.ns name : Nat) : Int) : Int) + (1 : Int))) ∧ sl a 11 = (.pointer (some ⟨b11_26, 0, none⟩)) ∧ sl a 50 = (.int .i64 (((lb x.ns name : Nat) : Int))) ∧ sl a 51 = (.int .i64 ((k : Nat))) ∧ Own W b6_2 [(.int .u8 (0)), (.int .i64 (0)), (.string (⟨#[]⟩)), (.slice none 0 0), (.slice none 0 0)] 25 ∧ Own W b5_2 [(.int .u8 (y.k)), (.int .i64 (y.n)), (.string (y.t)), (.slice cn2a (y.ns.length) cn2c), (.slice ci2a (y.xs.length) ci2c)] 25 ∧ Own W b3_2 [(.int .u8 (x.k)), (.int .i64 (x.n)), (.string (x.t)), (.slice cn0a (x.ns.length) cn0c), (.slice ci0a (x.xs.length) ci0c)] 25 ∧ Own W b11_26 [(.int .u8 (x.k)), (.int .i64 (x.n)), (.string (x.t)), va3_33, va4_33] 25 ∧ Rd W (SA w S (blks hd4_33 ++ (blks hd3_33 ++ (b11_26 :: (b6_2 :: (b5_2 :: (b3_2 :: []))))))) (strsD (x.ns)) (.slice cn0a (x.ns.length) cn0c) ∧ Rd W (SA w S (blks hd4_33 ++ (blks hd3_33 ++ (b11_26 :: (b6_2 :: (b5_2 :: (b3_2 :: []))))))) (valsD (x.xs)) (.slice ci0a (x.xs.length) ci0c) ∧ Rd W (SA w S (blks hd4_33 ++ (blks hd3_33 ++ (b11_26 :: (b6_2 :: (b5_2 :: (b3_2 :: []))))))) (strsD (y.ns)) (.slice cn2a (y.ns.length) cn2c) ∧ Rd W (SA w S (blks hd4_33 ++ (blks hd3_33 ++ (b11_26 :: (b6_2 :: (b5_2 :: (b3_2 :: []))))))) (valsD (y.xs)) (.slice ci2a (y.xs.length) ci2c) ∧ Arr W w.heap.size 9 1 (SF w (blks hd4_33 ++ (blks hd3_33 ++ (b11_26 :: (b6_2 :: (b5_2 :: (b3_2 :: []))))))) (List.map D.str (x.ns.take k)) va3_33 hd3_33 ∧ b6_2 ∉ blks hd3_33 ∧ b5_2 ∉ blks hd3_33 ∧ b3_2 ∉ blks hd3_33 ∧ b11_26 ∉ blks hd3_33 ∧ Arr W w.heap.size 25 5 (SF w (blks hd4_33 ++ (blks hd3_33 ++ (b11_26 :: (b6_2 :: (b5_2 :: (b3_2 :: []))))))) (List.map V.d (x.xs.take k)) va4_33 hd4_33 ∧ b6_2 ∉ blks hd4_33 ∧ b5_2 ∉ blks hd4_33 ∧ b3_2 ∉ blks hd4_33 ∧ b11_26 ∉ blks hd4_33 ∧ (∀ b ∈ blks hd3_33, b ∉ blks hd4_33)) ⟨(.slice none 0 0), none, (.slice none 0 0), (none), hsz30, hdf30, kw, e1, e3, e5, e6, e10, e11, e50, (e51.trans (congrArg (Value.int .i64) (rfl))), own_b6_2, own_b5_2, own_b3_2, own_b11_26, D_cn0, D_ci0, D_cn2, D_ci2, A_ar31, nb_none, nb_none, nb_none, nb_none, A_ar32, nb_none, nb_none, nb_none, nb_none, (fun _ _ => nb_none)⟩ ?_
        clear kw e1 e3 e5 e6 e10 e11 e50 e51 own_b6_2 own_b5_2 own_b3_2 own_b11_26 D_cn0 D_ci0 D_cn2 D_ci2 A_ar31 A_ar32
        rintro k a33 W33 hkk ⟨va3_33, hd3_33, va4_33, hd4_33, hsz33, hdf33, kw, e1, e3, e5, e6, e10, e11, e50, e51, own_b6_2, own_b5_2, own_b3_2, own_b11_26, D_cn0, D_ci0, D_cn2, D_ci2, A3_33, nb_b6_2_ar31_33, nb_b5_2_ar31_33, nb_b3_2_ar31_33, nb_b11_26_ar31_33, A4_33, nb_b6_2_ar32_33, nb_b5_2_ar32_33, nb_b3_2_ar32_33, nb_b11_26_ar32_33, dj_ar31_ar32_33⟩
        refine wp_seq_k fun K34 hK34 => ?_
        refine wp_reg All mixed hsz33 hdf33 st_tr trivial ?_
        refine Chain.op (φ := Is (.bool (decide (((k : Nat) : Int) < (((lb x.ns name : Nat) : Int) : Int))))) (st_is _) (sp_lss (Has.base rfl e51) (Has.base rfl e50)) ?_
        refine Chain.done ⟨by kernel_rfl, fun a35 g W35 hsz35 hdf35 hk hg henv hrest hpsi => ?_⟩
        obtain ⟨e52, -⟩ := henv
        replace e1 := (hrest 1 rfl).trans e1
        replace e6 := (hrest 6 rfl).trans e6
        replace e5 := (hrest 5 rfl).trans e5
        replace e3 := (hrest 3 rfl).trans e3
        replace e10 := (hrest 10 rfl).trans e10
        replace e11 := (hrest 11 rfl).trans e11
        replace e50 := (hrest 50 rfl).trans e50
        replace e51 := (hrest 51 rfl).trans e51
        replace A3_33 := A3_33.ext hk
        replace A4_33 := A4_33.ext hk
        replace D_cn0 := D_cn0.ext hk
        replace D_ci0 := D_ci0.ext hk
        replace D_cn2 := D_cn2.ext hk
        replace D_ci2 := D_ci2.ext hk
        have e52 : sl a35 52 = (.bool (decide (((k : Nat) : Int) < (((lb x.ns name : Nat) : Int) : Int)))) := e52
        replace own_b6_2 := own_b6_2.ext hk
        replace own_b5_2 := own_b5_2.ext hk
        replace own_b3_2 := own_b3_2.ext hk
        replace own_b11_26 := own_b11_26.ext hk
        replace kw := kw.trans (.of_ext hk)
        clear hrest hk hg hpsi
        refine tail_nil (hK34 _ _ ?_)
        refine wp_seq_k fun K36 hK36 => ?_
        refine wp_cond_split e52 (fun hc => ?_) (fun hc => ?_)
        · -- T: decide (((k : Nat) : Int) < (((lb x.ns name : Nat) : Int) : Int))
          have hlt : k < lb x.ns name := by have := of_decide_eq_true hc; omega
          have hltn : k < x.ns.length := by omega
          have hltx : k < x.xs.length := by omega
          have hwm := wts_mem hltx
          refine wp_skip (hK36 _ _ ?_)
          refine wp_seq_k fun K37 hK37 => ?_
          refine wp_block ?_
          refine wp_seq_k fun K38 hK38 => ?_
          refine wp_reg All mixed hsz35 hdf35 st_tr trivial ?_
          refine Chain.op (φ := Is (.int .i64 ((k : Nat)))) (st_is _) (sp_move (Has.base rfl e51)) ?_
          refine Chain.op (φ := Is (.int .i64 ((k : Nat)))) (st_is _) (sp_assign (Has.loc rfl)) ?_
          refine Chain.done ⟨by kernel_rfl, fun a39 g W39 hsz39 hdf39 hk hg henv hrest hpsi => ?_⟩
          obtain ⟨e12, -, -⟩ := henv
          replace e1 := (hrest 1 rfl).trans e1
          replace e6 := (hrest 6 rfl).trans e6
          replace e5 := (hrest 5 rfl).trans e5
          replace e3 := (hrest 3 rfl).trans e3
          replace e10 := (hrest 10 rfl).trans e10
          replace e11 := (hrest 11 rfl).trans e11
          replace e50 := (hrest 50 rfl).trans e50
          replace e51 := (hrest 51 rfl).trans e51
          replace A3_33 := A3_33.ext hk
          replace A4_33 := A4_33.ext hk
          replace D_cn0 := D_cn0.ext hk
          replace D_ci0 := D_ci0.ext hk
          replace D_cn2 := D_cn2.ext hk
          replace D_ci2 := D_ci2.ext hk
          have e12 : sl a39 12 = (.int .i64 ((k : Nat))) := e12
          replace own_b6_2 := own_b6_2.ext hk
          replace own_b5_2 := own_b5_2.ext hk
          replace own_b3_2 := own_b3_2.ext hk
          replace own_b11_26 := own_b11_26.ext hk
          replace kw := kw.trans (.of_ext hk)
          clear hrest hk hg hpsi
          refine tail_nil (hK38 _ _ ?_)
          refine wp_seq_k fun K40 hK40 => ?_
          refine wp_reg (fun k => k ∉ blks hd3_33) (Ψ := fun W => Arr W w.heap.size 9 1 (SF w (blks hd4_33 ++ (blks hd3_33 ++ (b11_26 :: (b6_2 :: (b5_2 :: (b3_2 :: []))))))) (List.map D.str (x.ns.take k)) va3_33 hd3_33) mixed hsz39 hdf39 (fun W W' k h => h.ext k) A3_33 ?_
          refine Chain.op (φ := Is (.pointer (some ⟨b11_26, 3, none⟩))) (st_is _) (sp_fieldO (Has.base rfl e11) Try.underlying25 rfl sz22 rfl) ?_
          refine Chain.op (φ := Is va3_33) (st_is _) (sp_loadO (v := va3_33) (Has.loc rfl) own_b11_26 nb_b11_26_ar31_33 agg22 sz22 (Nat.le_of_ble_eq_true rfl) (fun h => by first | rfl | cases h) rfl) ?_
          refine Chain.op (φ := Is (.pointer (some ⟨b3_2, 3, none⟩))) (st_is _) (sp_fieldO (Has.base rfl e3) Try.underlying25 rfl sz22 rfl) ?_
          refine Chain.op (φ := Is (.slice cn0a (x.ns.length) cn0c)) (st_is _) (sp_loadO (v := (.slice cn0a (x.ns.length) cn0c)) (Has.loc rfl) own_b3_2 nb_b3_2_ar31_33 agg22 sz22 (Nat.le_of_ble_eq_true rfl) (fun h => by first | rfl | cases h) rfl) ?_
          refine Chain.op (φ := Is (.int .i64 ((k : Nat)))) (st_is _) (sp_move (Has.base rfl e12)) ?_
          refine Chain.op (φ := IsR (SA w S (blks hd4_33 ++ (blks hd3_33 ++ (b11_26 :: (b6_2 :: (b5_2 :: (b3_2 :: []))))))) (D.str (x.ns[k]'hltn))) (st_r (sub_nb (fun b hb => List.mem_append_right _ (List.mem_append_left _ hb)))) (sp_indexS (i := k) ((Has.loc rfl).dat D_cn0 (sub_nb (fun b hb => List.mem_append_right _ (List.mem_append_left _ hb)))) (Has.loc rfl) Try.underlying22 sz9 rfl hltn) ?_
          refine Chain.op (φ := Is (.string (x.ns[k]'hltn))) (st_is _) (sp_loadStr (Has.loc rfl) agg9 sz9) ?_
          refine Chain.op (φ := IsD (SF w (blks hd4_33 ++ (blks hd3_33 ++ (b11_26 :: (b6_2 :: (b5_2 :: (b3_2 :: []))))))) (strsD ([x.ns[k]'hltn]))) (st_d (sub_nbF (fun b hb => List.mem_append_right _ (List.mem_append_left _ hb)))) (sp_bsl (ds := [D.str (x.ns[k]'hltn)]) Try.underlying22 sz9 z9 (Nat.le_of_ble_eq_true rfl) (Nat.le_of_ble_eq_true rfl) ⟨rfl, ((Has.loc rfl).str (rd_strAt D_cn0 k hltn)), trivial⟩ rfl (by simp [width]) (fr_sf kw (in_app A4_33.lt (in_app A3_33.lt (in_cons own_b11_26.lt (in_cons own_b6_2.lt (in_cons own_b5_2.lt (in_cons own_b3_2.lt in_nil)))))))) ?_
          refine Chain.appB (ds := List.map D.str (x.ns.take k)) (es := [D.str (x.ns[k]'hltn)]) (X := SF w (blks hd4_33 ++ (blks hd3_33 ++ (b11_26 :: (b6_2 :: (b5_2 :: (b3_2 :: []))))))) Try.underlying22 inf9 (Nat.le_of_ble_eq_true rfl) (Has.loc rfl) (Has.loc rfl) (sub_nbF (fun b hb => List.mem_append_right _ (List.mem_append_left _ hb))) (by simp [maxLen]; omega) (by simp; omega) kw.size ?_
          refine Chain.op (φ := Is (.pointer (some ⟨b11_26, 3, none⟩))) (st_is _) (sp_fieldO (Has.base rfl e11) Try.underlying25 rfl sz22 rfl) ?_
          refine Chain.done ⟨by kernel_rfl, fun a41 g W41 hsz41 hdf41 hk hg henv hrest hpsi => ?_⟩
          obtain ⟨e63, e62, -, -, -, -, -, -, -, -, -⟩ := henv
          replace e1 := (hrest 1 rfl).trans e1
          replace e6 := (hrest 6 rfl).trans e6
          replace e5 := (hrest 5 rfl).trans e5
          replace e3 := (hrest 3 rfl).trans e3
          replace e10 := (hrest 10 rfl).trans e10
          replace e11 := (hrest 11 rfl).trans e11
          replace e50 := (hrest 50 rfl).trans e50
          replace e51 := (hrest 51 rfl).trans e51
          replace e12 := (hrest 12 rfl).trans e12
          obtain ⟨v62_41, ev⟩ : ∃ v, sl a41 62 = v := ⟨_, rfl⟩
          rw [ev] at e62
          obtain ⟨hd62_41, A_62_41, hf62_41⟩ := e62
          have e62 := ev; clear ev
          obtain ⟨v62_41a, v62_41n, v62_41c, ev⟩ := arr_sl A_62_41; subst ev
          replace A_62_41 := arrF_new (M' := (blks hd4_33 ++ (blks hd62_41 ++ (b11_26 :: (b6_2 :: (b5_2 :: (b3_2 :: []))))))) A_62_41 (rep_app rep_refl (rep_app (rep_q fun _ h => h) (rep_cons (rep_cons (rep_cons (rep_cons rep_nil))))))
          replace A_62_41 : Arr W41 w.heap.size 9 1 (SF w (blks hd4_33 ++ (blks hd62_41 ++ (b11_26 :: (b6_2 :: (b5_2 :: (b3_2 :: []))))))) (List.map D.str ((x.ns.take k) ++ [x.ns[k]'hltn])) (.slice v62_41a v62_41n v62_41c) hd62_41 := by first | exact A_62_41 | (rw [List.map_append]; exact A_62_41)
          have nb_b6_2_41 : b6_2 ∉ blks hd62_41 := nb_new nb_b6_2_ar31_33 own_b6_2.lt hf62_41
          have nb_b5_2_41 : b5_2 ∉ blks hd62_41 := nb_new nb_b5_2_ar31_33 own_b5_2.lt hf62_41
          have nb_b3_2_41 : b3_2 ∉ blks hd62_41 := nb_new nb_b3_2_ar31_33 own_b3_2.lt hf62_41
          have nb_b11_26_41 : b11_26 ∉ blks hd62_41 := nb_new nb_b11_26_ar31_33 own_b11_26.lt hf62_41
          have dj_ar32_41 : ∀ b ∈ blks hd4_33, b ∉ blks hd62_41 := dj_new (dj_symm dj_ar31_ar32_33) A4_33.lt hf62_41
          replace A4_33 := arrF_app (M' := (blks hd4_33 ++ (blks hd62_41 ++ (b11_26 :: (b6_2 :: (b5_2 :: (b3_2 :: []))))))) A4_33 hk (fun b hb => List.mem_append_right _ (List.mem_append_left _ hb)) (rep_app rep_refl (rep_app hf62_41 (rep_cons (rep_cons (rep_cons (rep_cons rep_nil)))))) (dj_symm dj_ar31_ar32_33)
          replace D_cn0 := sa_app (M' := (blks hd4_33 ++ (blks hd62_41 ++ (b11_26 :: (b6_2 :: (b5_2 :: (b3_2 :: []))))))) D_cn0 hk (fun b hb => List.mem_append_right _ (List.mem_append_left _ hb)) (rep_app rep_refl (rep_app hf62_41 (rep_cons (rep_cons (rep_cons (rep_cons rep_nil))))))
          replace D_ci0 := sa_app (M' := (blks hd4_33 ++ (blks hd62_41 ++ (b11_26 :: (b6_2 :: (b5_2 :: (b3_2 :: []))))))) D_ci0 hk (fun b hb => List.mem_append_right _ (List.mem_append_left _ hb)) (rep_app rep_refl (rep_app hf62_41 (rep_cons (rep_cons (rep_cons (rep_cons rep_nil))))))
          replace D_cn2 := sa_app (M' := (blks hd4_33 ++ (blks hd62_41 ++ (b11_26 :: (b6_2 :: (b5_2 :: (b3_2 :: []))))))) D_cn2 hk (fun b hb => List.mem_append_right _ (List.mem_append_left _ hb)) (rep_app rep_refl (rep_app hf62_41 (rep_cons (rep_cons (rep_cons (rep_cons rep_nil))))))
          replace D_ci2 := sa_app (M' := (blks hd4_33 ++ (blks hd62_41 ++ (b11_26 :: (b6_2 :: (b5_2 :: (b3_2 :: []))))))) D_ci2 hk (fun b hb => List.mem_append_right _ (List.mem_append_left _ hb)) (rep_app rep_refl (rep_app hf62_41 (rep_cons (rep_cons (rep_cons (rep_cons rep_nil))))))
          replace own_b6_2 := own_app own_b6_2 hk nb_b6_2_ar31_33
          replace own_b5_2 := own_app own_b5_2 hk nb_b5_2_ar31_33
          replace own_b3_2 := own_app own_b3_2 hk nb_b3_2_ar31_33
          replace own_b11_26 := own_app own_b11_26 hk nb_b11_26_ar31_33
          replace kw := keeps_app kw hk A3_33.ge
          have e63 : sl a41 63 = (.pointer (some ⟨b11_26, 3, none⟩)) := e63
          clear hrest hk hg hpsi hf62_41 A3_33
          refine tail_store (b := b11_26) (o := 3) (v := (.slice v62_41a v62_41n v62_41c)) e63 e62 sz22 rfl own_b11_26 (Nat.le_of_ble_eq_true rfl) (all_cons rfl all_nil) (fun W42 hs own_b11_26 => ?_)
          have own_b11_26 : Own W42 b11_26 [(.int .u8 (x.k)), (.int .i64 (x.n)), (.string (x.t)), (.slice v62_41a v62_41n v62_41c), va4_33] 25 := own_b11_26
          replace own_b6_2 := own_store own_b6_2 hs ne_b6_2_b11_26
          replace own_b5_2 := own_store own_b5_2 hs ne_b5_2_b11_26
          replace own_b3_2 := own_store own_b3_2 hs ne_b3_2_b11_26
          replace D_cn0 := sa_store D_cn0 hs (by simp)
          replace D_ci0 := sa_store D_ci0 hs (by simp)
          replace D_cn2 := sa_store D_cn2 hs (by simp)
          replace D_ci2 := sa_store D_ci2 hs (by simp)
          replace A_62_41 := arrF_store A_62_41 hs (by simp) nb_b11_26_41
          replace A4_33 := arrF_store A4_33 hs (by simp) nb_b11_26_ar32_33
          replace kw := keeps_store kw hs lo_b11_26
          clear hs
          refine tail_nil (hK40 _ _ ?_)
          refine wp_reg (fun k => k ∉ blks hd4_33) (Ψ := fun W => Arr W w.heap.size 25 5 (SF w (blks hd4_33 ++ (blks hd62_41 ++ (b11_26 :: (b6_2 :: (b5_2 :: (b3_2 :: []))))))) (List.map V.d (x.xs.take k)) va4_33 hd4_33) mixed hsz41 hdf41 (fun W W' k h => h.ext k) A4_33 ?_
          refine Chain.op (φ := Is (.pointer (some ⟨b11_26, 4, none⟩))) (st_is _) (sp_fieldO (Has.base rfl e11) Try.underlying25 rfl sz23 rfl) ?_
          refine Chain.op (φ := Is va4_33) (st_is _) (sp_loadO (v := va4_33) (Has.loc rfl) own_b11_26 nb_b11_26_ar32_33 agg23 sz23 (Nat.le_of_ble_eq_true rfl) (fun h => by first | rfl | cases h) rfl) ?_
          refine Chain.op (φ := Is (.pointer (some ⟨b3_2, 4, none⟩))) (st_is _) (sp_fieldO (Has.base rfl e3) Try.underlying25 rfl sz23 rfl) ?_
          refine Chain.op (φ := Is (.slice ci0a (x.xs.length) ci0c)) (st_is _) (sp_loadO (v := (.slice ci0a (x.xs.length) ci0c)) (Has.loc rfl) own_b3_2 nb_b3_2_ar32_33 agg23 sz23 (Nat.le_of_ble_eq_true rfl) (fun h => by first | rfl | cases h) rfl) ?_
          refine Chain.op (φ := Is (.int .i64 ((k : Nat)))) (st_is _) (sp_move (Has.base rfl e12)) ?_
          refine Chain.op (φ := IsR (SA w S (blks hd4_33 ++ (blks hd62_41 ++ (b11_26 :: (b6_2 :: (b5_2 :: (b3_2 :: []))))))) (V.d (x.xs[k]'hltx))) (st_r (sub_nb (fun b hb => List.mem_append_left _ hb))) (sp_indexV (i := k) ((Has.loc rfl).dat D_ci0 (sub_nb (fun b hb => List.mem_append_left _ hb))) (Has.loc rfl) Try.underlying23 sz25 rfl hltx) ?_
          refine Chain.op (φ := IsD (SA w S (blks hd4_33 ++ (blks hd62_41 ++ (b11_26 :: (b6_2 :: (b5_2 :: (b3_2 :: []))))))) (V.d (x.xs[k]'hltx))) (st_d (sub_nb (fun b hb => List.mem_append_left _ hb))) (sp_loadV (Has.loc rfl) agg25 sz25) ?_
          refine Chain.op (φ := IsD (Fr W42) (V.d (x.xs[k]'hltx))) (st_d (sub_frnb (fun b hb => A4_33.lt b hb))) (sp_call1 (φ1 := IsD (SA w S (blks hd4_33 ++ (blks hd62_41 ++ (b11_26 :: (b6_2 :: (b5_2 :: (b3_2 :: []))))))) (V.d (x.xs[k]'hltx))) ent14 (Has.loc rfl) (fun g u1 W hk hgk h1 => (Copy_ok (x.xs[k]'hltx) (by first | omega | exact Nat.le_of_ble_eq_true (by kernel_rfl)) W _ _ (fun b o h => sa_cln hS b o h.1) h1).mono (ret_fr hk hgk))) ?_
          refine Chain.op (φ := IsD (SF w (blks hd4_33 ++ (blks hd62_41 ++ (b11_26 :: (b6_2 :: (b5_2 :: (b3_2 :: []))))))) (valsD ([x.xs[k]'hltx]))) (st_d (sub_nbF (fun b hb => List.mem_append_left _ hb))) (sp_bsl (ds := [V.d (x.xs[k]'hltx)]) Try.underlying23 sz25 z25 (Nat.le_of_ble_eq_true rfl) (Nat.le_of_ble_eq_true rfl) ⟨rfl, ((Has.loc rfl).sup (fr_sf kw (in_app A4_33.lt (in_app A_62_41.lt (in_cons own_b11_26.lt (in_cons own_b6_2.lt (in_cons own_b5_2.lt (in_cons own_b3_2.lt in_nil)))))))), trivial⟩ rfl (by intro e he; simp at he; rcases he with rfl <;> exact width_V _) (fr_sf kw (in_app A4_33.lt (in_app A_62_41.lt (in_cons own_b11_26.lt (in_cons own_b6_2.lt (in_cons own_b5_2.lt (in_cons own_b3_2.lt in_nil)))))))) ?_
          refine Chain.appB (ds := List.map V.d (x.xs.take k)) (es := [V.d (x.xs[k]'hltx)]) (X := SF w (blks hd4_33 ++ (blks hd62_41 ++ (b11_26 :: (b6_2 :: (b5_2 :: (b3_2 :: []))))))) Try.underlying23 inf25 (Nat.le_of_ble_eq_true rfl) (Has.loc rfl) (Has.loc rfl) (sub_nbF (fun b hb => List.mem_append_left _ hb)) (by simp [maxLen]; omega) (by simp; omega) kw.size ?_
          refine Chain.op (φ := Is (.pointer (some ⟨b11_26, 4, none⟩))) (st_is _) (sp_fieldO (Has.base rfl e11) Try.underlying25 rfl sz23 rfl) ?_
          refine Chain.done ⟨by kernel_rfl, fun a43 g W43 hsz43 hdf43 hk hg henv hrest hpsi => ?_⟩
          obtain ⟨e74, e73, -, -, -, -, -, -, -, -, -, -⟩ := henv
          replace e1 := (hrest 1 rfl).trans e1
          replace e6 := (hrest 6 rfl).trans e6
          replace e5 := (hrest 5 rfl).trans e5
          replace e3 := (hrest 3 rfl).trans e3
          replace e10 := (hrest 10 rfl).trans e10
          replace e11 := (hrest 11 rfl).trans e11
          replace e50 := (hrest 50 rfl).trans e50
          replace e51 := (hrest 51 rfl).trans e51
          obtain ⟨v73_43, ev⟩ : ∃ v, sl a43 73 = v := ⟨_, rfl⟩
          rw [ev] at e73
          obtain ⟨hd73_43, A_73_43, hf73_43⟩ := e73
          have e73 := ev; clear ev
          obtain ⟨v73_43a, v73_43n, v73_43c, ev⟩ := arr_sl A_73_43; subst ev
          replace A_73_43 := arrF_new (M' := (blks hd73_43 ++ (blks hd62_41 ++ (b11_26 :: (b6_2 :: (b5_2 :: (b3_2 :: []))))))) A_73_43 (rep_app (rep_q fun _ h => h) (rep_app rep_refl (rep_cons (rep_cons (rep_cons (rep_cons rep_nil))))))
          replace A_73_43 : Arr W43 w.heap.size 25 5 (SF w (blks hd73_43 ++ (blks hd62_41 ++ (b11_26 :: (b6_2 :: (b5_2 :: (b3_2 :: []))))))) (List.map V.d ((x.xs.take k) ++ [x.xs[k]'hltx])) (.slice v73_43a v73_43n v73_43c) hd73_43 := by first | exact A_73_43 | (rw [List.map_append]; exact A_73_43)
          have nb_b6_2_43 : b6_2 ∉ blks hd73_43 := nb_new nb_b6_2_ar32_33 own_b6_2.lt hf73_43
          have nb_b5_2_43 : b5_2 ∉ blks hd73_43 := nb_new nb_b5_2_ar32_33 own_b5_2.lt hf73_43
          have nb_b3_2_43 : b3_2 ∉ blks hd73_43 := nb_new nb_b3_2_ar32_33 own_b3_2.lt hf73_43
          have nb_b11_26_43 : b11_26 ∉ blks hd73_43 := nb_new nb_b11_26_ar32_33 own_b11_26.lt hf73_43
          have dj_ar31_43 : ∀ b ∈ blks hd62_41, b ∉ blks hd73_43 := dj_new (dj_symm dj_ar32_41) A_62_41.lt hf73_43
          replace A_62_41 := arrF_app (M' := (blks hd73_43 ++ (blks hd62_41 ++ (b11_26 :: (b6_2 :: (b5_2 :: (b3_2 :: []))))))) A_62_41 hk (fun b hb => List.mem_append_left _ hb) (rep_app hf73_43 (rep_app rep_refl (rep_cons (rep_cons (rep_cons (rep_cons rep_nil)))))) (dj_symm dj_ar32_41)
          replace D_cn0 := sa_app (M' := (blks hd73_43 ++ (blks hd62_41 ++ (b11_26 :: (b6_2 :: (b5_2 :: (b3_2 :: []))))))) D_cn0 hk (fun b hb => List.mem_append_left _ hb) (rep_app hf73_43 (rep_app rep_refl (rep_cons (rep_cons (rep_cons (rep_cons rep_nil))))))
          replace D_ci0 := sa_app (M' := (blks hd73_43 ++ (blks hd62_41 ++ (b11_26 :: (b6_2 :: (b5_2 :: (b3_2 :: []))))))) D_ci0 hk (fun b hb => List.mem_append_left _ hb) (rep_app hf73_43 (rep_app rep_refl (rep_cons (rep_cons (rep_cons (rep_cons rep_nil))))))
          replace D_cn2 := sa_app (M' := (blks hd73_43 ++ (blks hd62_41 ++ (b11_26 :: (b6_2 :: (b5_2 :: (b3_2 :: []))))))) D_cn2 hk (fun b hb => List.mem_append_left _ hb) (rep_app hf73_43 (rep_app rep_refl (rep_cons (rep_cons (rep_cons (rep_cons rep_nil))))))
          replace D_ci2 := sa_app (M' := (blks hd73_43 ++ (blks hd62_41 ++ (b11_26 :: (b6_2 :: (b5_2 :: (b3_2 :: []))))))) D_ci2 hk (fun b hb => List.mem_append_left _ hb) (rep_app hf73_43 (rep_app rep_refl (rep_cons (rep_cons (rep_cons (rep_cons rep_nil))))))
          replace own_b6_2 := own_app own_b6_2 hk nb_b6_2_ar32_33
          replace own_b5_2 := own_app own_b5_2 hk nb_b5_2_ar32_33
          replace own_b3_2 := own_app own_b3_2 hk nb_b3_2_ar32_33
          replace own_b11_26 := own_app own_b11_26 hk nb_b11_26_ar32_33
          replace kw := keeps_app kw hk A4_33.ge
          have e74 : sl a43 74 = (.pointer (some ⟨b11_26, 4, none⟩)) := e74
          clear hrest hk hg hpsi hf73_43 A4_33
          refine tail_store (b := b11_26) (o := 4) (v := (.slice v73_43a v73_43n v73_43c)) e74 e73 sz23 rfl own_b11_26 (Nat.le_of_ble_eq_true rfl) (all_cons rfl all_nil) (fun W44 hs own_b11_26 => ?_)
          have own_b11_26 : Own W44 b11_26 [(.int .u8 (x.k)), (.int .i64 (x.n)), (.string (x.t)), (.slice v62_41a v62_41n v62_41c), (.slice v73_43a v73_43n v73_43c)] 25 := own_b11_26
          replace own_b6_2 := own_store own_b6_2 hs ne_b6_2_b11_26
          replace own_b5_2 := own_store own_b5_2 hs ne_b5_2_b11_26
          replace own_b3_2 := own_store own_b3_2 hs ne_b3_2_b11_26
          replace D_cn0 := sa_store D_cn0 hs (by simp)
          replace D_ci0 := sa_store D_ci0 hs (by simp)
          replace D_cn2 := sa_store D_cn2 hs (by simp)
          replace D_ci2 := sa_store D_ci2 hs (by simp)
          replace A_62_41 := arrF_store A_62_41 hs (by simp) nb_b11_26_41
          replace A_73_43 := arrF_store A_73_43 hs (by simp) nb_b11_26_43
          replace kw := keeps_store kw hs lo_b11_26
          clear hs
          refine tail_nil (hK37 _ _ ?_)
          refine wp_reg All mixed hsz43 hdf43 st_tr trivial ?_
          refine Chain.op (φ := Is (.int .i64 (((k : Nat) : Int) + (1 : Int)))) (st_is _) (sp_add (Has.base rfl e51) Has.cst (i64_in (by omega))) ?_
          refine Chain.op (φ := Is (.int .i64 (((k : Nat) : Int) + (1 : Int)))) (st_is _) (sp_move (Has.loc rfl)) ?_
          refine Chain.done ⟨by kernel_rfl, fun a45 g W45 hsz45 hdf45 hk hg henv hrest hpsi => ?_⟩
          obtain ⟨e51, -, -⟩ := henv
          replace e1 := (hrest 1 rfl).trans e1
          replace e6 := (hrest 6 rfl).trans e6
          replace e5 := (hrest 5 rfl).trans e5
          replace e3 := (hrest 3 rfl).trans e3
          replace e10 := (hrest 10 rfl).trans e10
          replace e11 := (hrest 11 rfl).trans e11
          replace e50 := (hrest 50 rfl).trans e50
          replace A_62_41 := A_62_41.ext hk
          replace A_73_43 := A_73_43.ext hk
          replace D_cn0 := D_cn0.ext hk
          replace D_ci0 := D_ci0.ext hk
          replace D_cn2 := D_cn2.ext hk
          replace D_ci2 := D_ci2.ext hk
          have e51 : sl a45 51 = (.int .i64 (((k : Nat) : Int) + (1 : Int))) := e51
          replace own_b6_2 := own_b6_2.ext hk
          replace own_b5_2 := own_b5_2.ext hk
          replace own_b3_2 := own_b3_2.ext hk
          replace own_b11_26 := own_b11_26.ext hk
          replace kw := kw.trans (.of_ext hk)
          clear hrest hk hg hpsi
          rw [show (x.ns.take k) ++ [x.ns[k]'hltn] = x.ns.take (k + 1) by rw [List.take_succ_eq_append_getElem hltn]] at A_62_41
          rw [show (x.xs.take k) ++ [x.xs[k]'hltx] = x.xs.take (k + 1) by rw [List.take_succ_eq_append_getElem hltx]] at A_73_43
          exact tail_nil ⟨hlt, (.slice v62_41a v62_41n v62_41c), hd62_41, (.slice v73_43a v73_43n v73_43c), hd73_43, hsz45, hdf45, kw, e1, e3, e5, e6, e10, e11, e50, (e51.trans (congrArg (Value.int .i64) (by simp))), own_b6_2, own_b5_2, own_b3_2, own_b11_26, D_cn0, D_ci0, D_cn2, D_ci2, A_62_41, nb_b6_2_41, nb_b5_2_41, nb_b3_2_41, nb_b11_26_41, A_73_43, nb_b6_2_43, nb_b5_2_43, nb_b3_2_43, nb_b11_26_43, dj_ar31_43⟩
        · -- E: decide (((k : Nat) : Int) < (((lb x.ns name : Nat) : Int) : Int))
          have hge0 := of_decide_eq_false hc
          have hge : k = lb x.ns name := by omega
          rw [show x.ns.take k = x.ns.take (lb x.ns name) by rw [hge]] at A3_33
          rw [show x.xs.take k = x.xs.take (lb x.ns name) by rw [hge]] at A4_33
          refine wp_exit (hK28 _ _ ?_)
          refine wp_seq_k fun K46 hK46 => ?_
          refine wp_reg (fun k => k ∉ blks hd3_33) (Ψ := fun W => Arr W w.heap.size 9 1 (SF w (blks hd4_33 ++ (blks hd3_33 ++ (b11_26 :: (b6_2 :: (b5_2 :: (b3_2 :: []))))))) (List.map D.str (x.ns.take (lb x.ns name))) va3_33 hd3_33) mixed hsz35 hdf35 (fun W W' k h => h.ext k) A3_33 ?_
          refine Chain.op (φ := Is (.pointer (some ⟨b11_26, 3, none⟩))) (st_is _) (sp_fieldO (Has.base rfl e11) Try.underlying25 rfl sz22 rfl) ?_
          refine Chain.op (φ := Is va3_33) (st_is _) (sp_loadO (v := va3_33) (Has.loc rfl) own_b11_26 nb_b11_26_ar31_33 agg22 sz22 (Nat.le_of_ble_eq_true rfl) (fun h => by first | rfl | cases h) rfl) ?_
          refine Chain.op (φ := Is (.string (name))) (st_is _) (sp_move (Has.base rfl e1)) ?_
          refine Chain.op (φ := IsD (SF w (blks hd4_33 ++ (blks hd3_33 ++ (b11_26 :: (b6_2 :: (b5_2 :: (b3_2 :: []))))))) (strsD ([name]))) (st_d (sub_nbF (fun b hb => List.mem_append_right _ (List.mem_append_left _ hb)))) (sp_bsl (ds := [D.str (name)]) Try.underlying22 sz9 z9 (Nat.le_of_ble_eq_true rfl) (Nat.le_of_ble_eq_true rfl) ⟨rfl, ((Has.loc rfl).str hname), trivial⟩ rfl (by simp [width]) (fr_sf kw (in_app A4_33.lt (in_app A3_33.lt (in_cons own_b11_26.lt (in_cons own_b6_2.lt (in_cons own_b5_2.lt (in_cons own_b3_2.lt in_nil)))))))) ?_
          refine Chain.appB (ds := List.map D.str (x.ns.take (lb x.ns name))) (es := [D.str (name)]) (X := SF w (blks hd4_33 ++ (blks hd3_33 ++ (b11_26 :: (b6_2 :: (b5_2 :: (b3_2 :: []))))))) Try.underlying22 inf9 (Nat.le_of_ble_eq_true rfl) (Has.loc rfl) (Has.loc rfl) (sub_nbF (fun b hb => List.mem_append_right _ (List.mem_append_left _ hb))) (by simp [maxLen]; omega) (by simp; omega) kw.size ?_
          refine Chain.op (φ := Is (.pointer (some ⟨b11_26, 3, none⟩))) (st_is _) (sp_fieldO (Has.base rfl e11) Try.underlying25 rfl sz22 rfl) ?_
          refine Chain.done ⟨by kernel_rfl, fun a47 g W47 hsz47 hdf47 hk hg henv hrest hpsi => ?_⟩
          obtain ⟨e81, e80, -, -, -, -, -⟩ := henv
          replace e6 := (hrest 6 rfl).trans e6
          replace e5 := (hrest 5 rfl).trans e5
          replace e3 := (hrest 3 rfl).trans e3
          replace e10 := (hrest 10 rfl).trans e10
          replace e11 := (hrest 11 rfl).trans e11
          obtain ⟨v80_47, ev⟩ : ∃ v, sl a47 80 = v := ⟨_, rfl⟩
          rw [ev] at e80
          obtain ⟨hd80_47, A_80_47, hf80_47⟩ := e80
          have e80 := ev; clear ev
          obtain ⟨v80_47a, v80_47n, v80_47c, ev⟩ := arr_sl A_80_47; subst ev
          replace A_80_47 := arrF_new (M' := (blks hd4_33 ++ (blks hd80_47 ++ (b11_26 :: (b6_2 :: (b5_2 :: (b3_2 :: []))))))) A_80_47 (rep_app rep_refl (rep_app (rep_q fun _ h => h) (rep_cons (rep_cons (rep_cons (rep_cons rep_nil))))))
          replace A_80_47 : Arr W47 w.heap.size 9 1 (SF w (blks hd4_33 ++ (blks hd80_47 ++ (b11_26 :: (b6_2 :: (b5_2 :: (b3_2 :: []))))))) (List.map D.str ((x.ns.take (lb x.ns name)) ++ [name])) (.slice v80_47a v80_47n v80_47c) hd80_47 := by first | exact A_80_47 | (rw [List.map_append]; exact A_80_47)
          have nb_b6_2_47 : b6_2 ∉ blks hd80_47 := nb_new nb_b6_2_ar31_33 own_b6_2.lt hf80_47
          have nb_b5_2_47 : b5_2 ∉ blks hd80_47 := nb_new nb_b5_2_ar31_33 own_b5_2.lt hf80_47
          have nb_b3_2_47 : b3_2 ∉ blks hd80_47 := nb_new nb_b3_2_ar31_33 own_b3_2.lt hf80_47
          have nb_b11_26_47 : b11_26 ∉ blks hd80_47 := nb_new nb_b11_26_ar31_33 own_b11_26.lt hf80_47
          have dj_ar32_47 : ∀ b ∈ blks hd4_33, b ∉ blks hd80_47 := dj_new (dj_symm dj_ar31_ar32_33) A4_33.lt hf80_47
          replace A4_33 := arrF_app (M' := (blks hd4_33 ++ (blks hd80_47 ++ (b11_26 :: (b6_2 :: (b5_2 :: (b3_2 :: []))))))) A4_33 hk (fun b hb => List.mem_append_right _ (List.mem_append_left _ hb)) (rep_app rep_refl (rep_app hf80_47 (rep_cons (rep_cons (rep_cons (rep_cons rep_nil)))))) (dj_symm dj_ar31_ar32_33)
          replace D_cn0 := sa_app (M' := (blks hd4_33 ++ (blks hd80_47 ++ (b11_26 :: (b6_2 :: (b5_2 :: (b3_2 :: []))))))) D_cn0 hk (fun b hb => List.mem_append_right _ (List.mem_append_left _ hb)) (rep_app rep_refl (rep_app hf80_47 (rep_cons (rep_cons (rep_cons (rep_cons rep_nil))))))
          replace D_ci0 := sa_app (M' := (blks hd4_33 ++ (blks hd80_47 ++ (b11_26 :: (b6_2 :: (b5_2 :: (b3_2 :: []))))))) D_ci0 hk (fun b hb => List.mem_append_right _ (List.mem_append_left _ hb)) (rep_app rep_refl (rep_app hf80_47 (rep_cons (rep_cons (rep_cons (rep_cons rep_nil))))))
          replace D_cn2 := sa_app (M' := (blks hd4_33 ++ (blks hd80_47 ++ (b11_26 :: (b6_2 :: (b5_2 :: (b3_2 :: []))))))) D_cn2 hk (fun b hb => List.mem_append_right _ (List.mem_append_left _ hb)) (rep_app rep_refl (rep_app hf80_47 (rep_cons (rep_cons (rep_cons (rep_cons rep_nil))))))
          replace D_ci2 := sa_app (M' := (blks hd4_33 ++ (blks hd80_47 ++ (b11_26 :: (b6_2 :: (b5_2 :: (b3_2 :: []))))))) D_ci2 hk (fun b hb => List.mem_append_right _ (List.mem_append_left _ hb)) (rep_app rep_refl (rep_app hf80_47 (rep_cons (rep_cons (rep_cons (rep_cons rep_nil))))))
          replace own_b6_2 := own_app own_b6_2 hk nb_b6_2_ar31_33
          replace own_b5_2 := own_app own_b5_2 hk nb_b5_2_ar31_33
          replace own_b3_2 := own_app own_b3_2 hk nb_b3_2_ar31_33
          replace own_b11_26 := own_app own_b11_26 hk nb_b11_26_ar31_33
          replace kw := keeps_app kw hk A3_33.ge
          have e81 : sl a47 81 = (.pointer (some ⟨b11_26, 3, none⟩)) := e81
          clear hrest hk hg hpsi hf80_47 A3_33
          refine tail_store (b := b11_26) (o := 3) (v := (.slice v80_47a v80_47n v80_47c)) e81 e80 sz22 rfl own_b11_26 (Nat.le_of_ble_eq_true rfl) (all_cons rfl all_nil) (fun W48 hs own_b11_26 => ?_)
          have own_b11_26 : Own W48 b11_26 [(.int .u8 (x.k)), (.int .i64 (x.n)), (.string (x.t)), (.slice v80_47a v80_47n v80_47c), va4_33] 25 := own_b11_26
          replace own_b6_2 := own_store own_b6_2 hs ne_b6_2_b11_26
          replace own_b5_2 := own_store own_b5_2 hs ne_b5_2_b11_26
          replace own_b3_2 := own_store own_b3_2 hs ne_b3_2_b11_26
          replace D_cn0 := sa_store D_cn0 hs (by simp)
          replace D_ci0 := sa_store D_ci0 hs (by simp)
          replace D_cn2 := sa_store D_cn2 hs (by simp)
          replace D_ci2 := sa_store D_ci2 hs (by simp)
          replace A_80_47 := arrF_store A_80_47 hs (by simp) nb_b11_26_47
          replace A4_33 := arrF_store A4_33 hs (by simp) nb_b11_26_ar32_33
          replace kw := keeps_store kw hs lo_b11_26
          clear hs
          refine tail_nil (hK46 _ _ ?_)
          refine wp_seq_k fun K49 hK49 => ?_
          refine wp_reg (fun k => k ∉ blks hd4_33) (Ψ := fun W => Arr W w.heap.size 25 5 (SF w (blks hd4_33 ++ (blks hd80_47 ++ (b11_26 :: (b6_2 :: (b5_2 :: (b3_2 :: []))))))) (List.map V.d (x.xs.take (lb x.ns name))) va4_33 hd4_33) mixed hsz47 hdf47 (fun W W' k h => h.ext k) A4_33 ?_
          refine Chain.op (φ := Is (.pointer (some ⟨b11_26, 4, none⟩))) (st_is _) (sp_fieldO (Has.base rfl e11) Try.underlying25 rfl sz23 rfl) ?_
          refine Chain.op (φ := Is va4_33) (st_is _) (sp_loadO (v := va4_33) (Has.loc rfl) own_b11_26 nb_b11_26_ar32_33 agg23 sz23 (Nat.le_of_ble_eq_true rfl) (fun h => by first | rfl | cases h) rfl) ?_
          refine Chain.op (φ := Is (.agg #[(.int .u8 (y.k)), (.int .i64 (y.n)), (.string (y.t)), (.slice cn2a (y.ns.length) cn2c), (.slice ci2a (y.xs.length) ci2c)])) (st_is _) (sp_loadO (v := (.agg #[(.int .u8 (y.k)), (.int .i64 (y.n)), (.string (y.t)), (.slice cn2a (y.ns.length) cn2c), (.slice ci2a (y.xs.length) ci2c)])) (Has.base rfl e5) own_b5_2 nb_b5_2_ar32_33 agg25 sz25 (Nat.le_of_ble_eq_true rfl) (fun h => by first | rfl | cases h) rfl) ?_
          refine Chain.op (φ := IsD (Fr W48) (V.d (y))) (st_d (sub_frnb (fun b hb => A4_33.lt b hb))) (sp_call1 (φ1 := IsD (SA w S (blks hd4_33 ++ (blks hd80_47 ++ (b11_26 :: (b6_2 :: (b5_2 :: (b3_2 :: []))))))) (V.d (y))) ent14 ((Has.loc rfl).dat (rdV_in (x := y) ht2 D_cn2 D_ci2 : Rd W48 (SA w S (blks hd4_33 ++ (blks hd80_47 ++ (b11_26 :: (b6_2 :: (b5_2 :: (b3_2 :: []))))))) (V.d (y)) _) (sub_nb (fun b hb => List.mem_append_left _ hb))) (fun g u1 W hk hgk h1 => (Copy_ok (y) (by first | omega | exact Nat.le_of_ble_eq_true (by kernel_rfl)) W _ _ (fun b o h => sa_cln hS b o h.1) h1).mono (ret_fr hk hgk))) ?_
          refine Chain.op (φ := IsD (SF w (blks hd4_33 ++ (blks hd80_47 ++ (b11_26 :: (b6_2 :: (b5_2 :: (b3_2 :: []))))))) (valsD ([y]))) (st_d (sub_nbF (fun b hb => List.mem_append_left _ hb))) (sp_bsl (ds := [V.d (y)]) Try.underlying23 sz25 z25 (Nat.le_of_ble_eq_true rfl) (Nat.le_of_ble_eq_true rfl) ⟨rfl, ((Has.loc rfl).sup (fr_sf kw (in_app A4_33.lt (in_app A_80_47.lt (in_cons own_b11_26.lt (in_cons own_b6_2.lt (in_cons own_b5_2.lt (in_cons own_b3_2.lt in_nil)))))))), trivial⟩ rfl (by intro e he; simp at he; rcases he with rfl <;> exact width_V _) (fr_sf kw (in_app A4_33.lt (in_app A_80_47.lt (in_cons own_b11_26.lt (in_cons own_b6_2.lt (in_cons own_b5_2.lt (in_cons own_b3_2.lt in_nil)))))))) ?_
          refine Chain.appB (ds := List.map V.d (x.xs.take (lb x.ns name))) (es := [V.d (y)]) (X := SF w (blks hd4_33 ++ (blks hd80_47 ++ (b11_26 :: (b6_2 :: (b5_2 :: (b3_2 :: []))))))) Try.underlying23 inf25 (Nat.le_of_ble_eq_true rfl) (Has.loc rfl) (Has.loc rfl) (sub_nbF (fun b hb => List.mem_append_left _ hb)) (by simp [maxLen]; omega) (by simp; omega) kw.size ?_
          refine Chain.op (φ := Is (.pointer (some ⟨b11_26, 4, none⟩))) (st_is _) (sp_fieldO (Has.base rfl e11) Try.underlying25 rfl sz23 rfl) ?_
          refine Chain.done ⟨by kernel_rfl, fun a50 g W50 hsz50 hdf50 hk hg henv hrest hpsi => ?_⟩
          obtain ⟨e88, e87, -, -, -, -, -, -⟩ := henv
          replace e6 := (hrest 6 rfl).trans e6
          replace e3 := (hrest 3 rfl).trans e3
          replace e10 := (hrest 10 rfl).trans e10
          replace e11 := (hrest 11 rfl).trans e11
          obtain ⟨v87_50, ev⟩ : ∃ v, sl a50 87 = v := ⟨_, rfl⟩
          rw [ev] at e87
          obtain ⟨hd87_50, A_87_50, hf87_50⟩ := e87
          have e87 := ev; clear ev
          obtain ⟨v87_50a, v87_50n, v87_50c, ev⟩ := arr_sl A_87_50; subst ev
          replace A_87_50 := arrF_new (M' := (blks hd87_50 ++ (blks hd80_47 ++ (b11_26 :: (b6_2 :: (b5_2 :: (b3_2 :: []))))))) A_87_50 (rep_app (rep_q fun _ h => h) (rep_app rep_refl (rep_cons (rep_cons (rep_cons (rep_cons rep_nil))))))
          replace A_87_50 : Arr W50 w.heap.size 25 5 (SF w (blks hd87_50 ++ (blks hd80_47 ++ (b11_26 :: (b6_2 :: (b5_2 :: (b3_2 :: []))))))) (List.map V.d ((x.xs.take (lb x.ns name)) ++ [y])) (.slice v87_50a v87_50n v87_50c) hd87_50 := by first | exact A_87_50 | (rw [List.map_append]; exact A_87_50)
          have nb_b6_2_50 : b6_2 ∉ blks hd87_50 := nb_new nb_b6_2_ar32_33 own_b6_2.lt hf87_50
          have nb_b5_2_50 : b5_2 ∉ blks hd87_50 := nb_new nb_b5_2_ar32_33 own_b5_2.lt hf87_50
          have nb_b3_2_50 : b3_2 ∉ blks hd87_50 := nb_new nb_b3_2_ar32_33 own_b3_2.lt hf87_50
          have nb_b11_26_50 : b11_26 ∉ blks hd87_50 := nb_new nb_b11_26_ar32_33 own_b11_26.lt hf87_50
          have dj_ar31_50 : ∀ b ∈ blks hd80_47, b ∉ blks hd87_50 := dj_new (dj_symm dj_ar32_47) A_80_47.lt hf87_50
          replace A_80_47 := arrF_app (M' := (blks hd87_50 ++ (blks hd80_47 ++ (b11_26 :: (b6_2 :: (b5_2 :: (b3_2 :: []))))))) A_80_47 hk (fun b hb => List.mem_append_left _ hb) (rep_app hf87_50 (rep_app rep_refl (rep_cons (rep_cons (rep_cons (rep_cons rep_nil)))))) (dj_symm dj_ar32_47)
          replace D_cn0 := sa_app (M' := (blks hd87_50 ++ (blks hd80_47 ++ (b11_26 :: (b6_2 :: (b5_2 :: (b3_2 :: []))))))) D_cn0 hk (fun b hb => List.mem_append_left _ hb) (rep_app hf87_50 (rep_app rep_refl (rep_cons (rep_cons (rep_cons (rep_cons rep_nil))))))
          replace D_ci0 := sa_app (M' := (blks hd87_50 ++ (blks hd80_47 ++ (b11_26 :: (b6_2 :: (b5_2 :: (b3_2 :: []))))))) D_ci0 hk (fun b hb => List.mem_append_left _ hb) (rep_app hf87_50 (rep_app rep_refl (rep_cons (rep_cons (rep_cons (rep_cons rep_nil))))))
          replace D_cn2 := sa_app (M' := (blks hd87_50 ++ (blks hd80_47 ++ (b11_26 :: (b6_2 :: (b5_2 :: (b3_2 :: []))))))) D_cn2 hk (fun b hb => List.mem_append_left _ hb) (rep_app hf87_50 (rep_app rep_refl (rep_cons (rep_cons (rep_cons (rep_cons rep_nil))))))
          replace D_ci2 := sa_app (M' := (blks hd87_50 ++ (blks hd80_47 ++ (b11_26 :: (b6_2 :: (b5_2 :: (b3_2 :: []))))))) D_ci2 hk (fun b hb => List.mem_append_left _ hb) (rep_app hf87_50 (rep_app rep_refl (rep_cons (rep_cons (rep_cons (rep_cons rep_nil))))))
          replace own_b6_2 := own_app own_b6_2 hk nb_b6_2_ar32_33
          replace own_b5_2 := own_app own_b5_2 hk nb_b5_2_ar32_33
          replace own_b3_2 := own_app own_b3_2 hk nb_b3_2_ar32_33
          replace own_b11_26 := own_app own_b11_26 hk nb_b11_26_ar32_33
          replace kw := keeps_app kw hk A4_33.ge
          have e88 : sl a50 88 = (.pointer (some ⟨b11_26, 4, none⟩)) := e88
          clear hrest hk hg hpsi hf87_50 A4_33
          refine tail_store (b := b11_26) (o := 4) (v := (.slice v87_50a v87_50n v87_50c)) e88 e87 sz23 rfl own_b11_26 (Nat.le_of_ble_eq_true rfl) (all_cons rfl all_nil) (fun W51 hs own_b11_26 => ?_)
          have own_b11_26 : Own W51 b11_26 [(.int .u8 (x.k)), (.int .i64 (x.n)), (.string (x.t)), (.slice v80_47a v80_47n v80_47c), (.slice v87_50a v87_50n v87_50c)] 25 := own_b11_26
          replace own_b6_2 := own_store own_b6_2 hs ne_b6_2_b11_26
          replace own_b5_2 := own_store own_b5_2 hs ne_b5_2_b11_26
          replace own_b3_2 := own_store own_b3_2 hs ne_b3_2_b11_26
          replace D_cn0 := sa_store D_cn0 hs (by simp)
          replace D_ci0 := sa_store D_ci0 hs (by simp)
          replace D_cn2 := sa_store D_cn2 hs (by simp)
          replace D_ci2 := sa_store D_ci2 hs (by simp)
          replace A_80_47 := arrF_store A_80_47 hs (by simp) nb_b11_26_47
          replace A_87_50 := arrF_store A_87_50 hs (by simp) nb_b11_26_50
          replace kw := keeps_store kw hs lo_b11_26
          clear hs
          refine tail_nil (hK49 _ _ ?_)
          refine wp_seq_k fun K52 hK52 => ?_
          refine wp_seq_k fun K53 hK53 => ?_
          refine wp_reg All mixed hsz50 hdf50 st_tr trivial ?_
          refine Chain.op (φ := Is (.int .i64 ((((lb x.ns name : Nat) : Int) : Int) + (1 : Int)))) (st_is _) (sp_move (Has.base rfl e10)) ?_
          refine Chain.op (φ := Is (.int .i64 ((((lb x.ns name : Nat) : Int) : Int) + (1 : Int)))) (st_is _) (sp_assign (Has.loc rfl)) ?_
          refine Chain.done ⟨by kernel_rfl, fun a54 g W54 hsz54 hdf54 hk hg henv hrest hpsi => ?_⟩
          obtain ⟨e13, -, -⟩ := henv
          replace e6 := (hrest 6 rfl).trans e6
          replace e3 := (hrest 3 rfl).trans e3
          replace e11 := (hrest 11 rfl).trans e11
          replace A_80_47 := A_80_47.ext hk
          replace A_87_50 := A_87_50.ext hk
          replace D_cn0 := D_cn0.ext hk
          replace D_ci0 := D_ci0.ext hk
          have e13 : sl a54 13 = (.int .i64 ((((lb x.ns name : Nat) : Int) : Int) + (1 : Int))) := e13
          replace own_b6_2 := own_b6_2.ext hk
          replace own_b5_2 := own_b5_2.ext hk
          replace own_b3_2 := own_b3_2.ext hk
          replace own_b11_26 := own_b11_26.ext hk
          replace kw := kw.trans (.of_ext hk)
          clear hrest hk hg hpsi
          refine tail_nil (hK53 _ _ ?_)
          refine wp_block ?_
          replace A_80_47 := arrF_less (M' := (blks hd87_50 ++ (blks hd80_47 ++ (b11_26 :: (b6_2 :: (b3_2 :: [])))))) A_80_47 (ls_keepA (ls_keepA (ls_keep (ls_keep (ls_skip (ls_keep ls_nil))))))
          replace A_87_50 := arrF_less (M' := (blks hd87_50 ++ (blks hd80_47 ++ (b11_26 :: (b6_2 :: (b3_2 :: [])))))) A_87_50 (ls_keepA (ls_keepA (ls_keep (ls_keep (ls_skip (ls_keep ls_nil))))))
          replace D_cn0 := sa_less (M' := (blks hd87_50 ++ (blks hd80_47 ++ (b11_26 :: (b6_2 :: (b3_2 :: [])))))) D_cn0 (ls_keepA (ls_keepA (ls_keep (ls_keep (ls_skip (ls_keep ls_nil))))))
          replace D_ci0 := sa_less (M' := (blks hd87_50 ++ (blks hd80_47 ++ (b11_26 :: (b6_2 :: (b3_2 :: [])))))) D_ci0 (ls_keepA (ls_keepA (ls_keep (ls_keep (ls_skip (ls_keep ls_nil))))))
          rw [show (x.ns.take (lb x.ns name)) ++ [name] = x.ns.take (lb x.ns name) ++ [name] ++ (x.ns.drop (lb x.ns name + 1)).take 0 by simp] at A_80_47
          rw [show (x.xs.take (lb x.ns name)) ++ [y] = x.xs.take (lb x.ns name) ++ [y] ++ (x.xs.drop (lb x.ns name + 1)).take 0 by simp] at A_87_50
          refine wp_for (x.ns.length - (lb x.ns name + 1)) (fun k a W => ∃ (va3_55 : Value), ∃ (hd3_55 : Option Nat), ∃ (va4_55 : Value), ∃ (hd4_55 : Option Nat), a.tmps.size = 119 ∧ a.defers = [] ∧ Keeps All w W ∧ sl a 3 = (.pointer (some ⟨b3_2, 0, none⟩)) ∧ sl a 6 = (.pointer (some ⟨b6_2, 0, none⟩)) ∧ sl a 11 = (.pointer (some ⟨b11_26, 0, none⟩)) ∧ sl a 13 = (.int .i64 ((((lb x.ns name + 1) + k : Nat) : Int))) ∧ Own W b6_2 [(.int .u8 (0)), (.int .i64 (0)), (.string (⟨#[]⟩)), (.slice none 0 0), (.slice none 0 0)] 25 ∧ Own W b3_2 [(.int .u8 (x.k)), (.int .i64 (x.n)), (.string (x.t)), (.slice cn0a (x.ns.length) cn0c), (.slice ci0a (x.xs.length) ci0c)] 25 ∧ Own W b11_26 [(.int .u8 (x.k)), (.int .i64 (x.n)), (.string (x.t)), va3_55, va4_55] 25 ∧ Rd W (SA w S (blks hd4_55 ++ (blks hd3_55 ++ (b11_26 :: (b6_2 :: (b3_2 :: [])))))) (strsD (x.ns)) (.slice cn0a (x.ns.length) cn0c) ∧ Rd W (SA w S (blks hd4_55 ++ (blks hd3_55 ++ (b11_26 :: (b6_2 :: (b3_2 :: [])))))) (valsD (x.xs)) (.slice ci0a (x.xs.length) ci0c) ∧ Arr W w.heap.size 9 1 (SF w (blks hd4_55 ++ (blks hd3_55 ++ (b11_26 :: (b6_2 :: (b3_2 :: [])))))) (List.map D.str (x.ns.take (lb x.ns name) ++ [name] ++ (x.ns.drop (lb x.ns name + 1)).take k)) va3_55 hd3_55 ∧ b6_2 ∉ blks hd3_55 ∧ b3_2 ∉ blks hd3_55 ∧ b11_26 ∉ blks hd3_55 ∧ Arr W w.heap.size 25 5 (SF w (blks hd4_55 ++ (blks hd3_55 ++ (b11_26 :: (b6_2 :: (b3_2 :: [])))))) (List.map V.d (x.xs.take (lb x.ns name) ++ [y] ++ (x.xs.drop (lb x.ns name + 1)).take k)) va4_55 hd4_55 ∧ b6_2 ∉ blks hd4_55 ∧ b3_2 ∉ blks hd4_55 ∧ b11_26 ∉ blks hd4_55 ∧ (∀ b ∈ blks hd3_55, b ∉ blks hd4_55)) ⟨(.slice v80_47a v80_47n v80_47c), hd80_47, (.slice v87_50a v87_50n v87_50c), hd87_50, hsz54, hdf54, kw, e3, e6, e11, (e13.trans (congrArg (Value.int .i64) (by omega))), own_b6_2, own_b3_2, own_b11_26, D_cn0, D_ci0, A_80_47, nb_b6_2_47, nb_b3_2_47, nb_b11_26_47, A_87_50, nb_b6_2_50, nb_b3_2_50, nb_b11_26_50, dj_ar31_50⟩ ?_
          clear kw e3 e6 e11 e13 own_b6_2 own_b3_2 own_b11_26 D_cn0 D_ci0 A_80_47 A_87_50
          rintro k a55 W55 hkk ⟨va3_55, hd3_55, va4_55, hd4_55, hsz55, hdf55, kw, e3, e6, e11, e13, own_b6_2, own_b3_2, own_b11_26, D_cn0, D_ci0, A3_55, nb_b6_2_ar31_55, nb_b3_2_ar31_55, nb_b11_26_ar31_55, A4_55, nb_b6_2_ar32_55, nb_b3_2_ar32_55, nb_b11_26_ar32_55, dj_ar31_ar32_55⟩
          refine wp_seq_k fun K56 hK56 => ?_
          refine wp_seq_k fun K57 hK57 => ?_
          refine wp_reg All mixed hsz55 hdf55 st_tr trivial ?_
          refine Chain.op (φ := Is (.int .i64 ((((lb x.ns name + 1) + k : Nat) : Int)))) (st_is _) (sp_move (Has.base rfl e13)) ?_
          refine Chain.op (φ := Is (.pointer (some ⟨b3_2, 3, none⟩))) (st_is _) (sp_fieldO (Has.base rfl e3) Try.underlying25 rfl sz22 rfl) ?_
          refine Chain.op (φ := Is (.slice cn0a (x.ns.length) cn0c)) (st_is _) (sp_loadO (v := (.slice cn0a (x.ns.length) cn0c)) (Has.loc rfl) own_b3_2 trivial agg22 sz22 (Nat.le_of_ble_eq_true rfl) (fun h => by first | rfl | cases h) rfl) ?_
          refine Chain.op (φ := Is (.int .i64 (x.ns.length))) (st_is _) (sp_lenSs Try.underlying22 ((Has.loc rfl).dat D_cn0 sub_all)) ?_
          refine Chain.op (φ := Is (.bool (decide (((((lb x.ns name + 1) + k : Nat) : Int) : Int) < (x.ns.length : Int))))) (st_is _) (sp_lss (Has.loc rfl) (Has.loc rfl)) ?_
          refine Chain.done ⟨by kernel_rfl, fun a58 g W58 hsz58 hdf58 hk hg henv hrest hpsi => ?_⟩
          obtain ⟨e94, -, -, -, -, -⟩ := henv
          replace e6 := (hrest 6 rfl).trans e6
          replace e3 := (hrest 3 rfl).trans e3
          replace e11 := (hrest 11 rfl).trans e11
          replace e13 := (hrest 13 rfl).trans e13
          replace A3_55 := A3_55.ext hk
          replace A4_55 := A4_55.ext hk
          replace D_cn0 := D_cn0.ext hk
          replace D_ci0 := D_ci0.ext hk
          have e94 : sl a58 94 = (.bool (decide (((((lb x.ns name + 1) + k : Nat) : Int) : Int) < (x.ns.length : Int)))) := e94
          replace own_b6_2 := own_b6_2.ext hk
          replace own_b3_2 := own_b3_2.ext hk
          replace own_b11_26 := own_b11_26.ext hk
          replace kw := kw.trans (.of_ext hk)
          clear hrest hk hg hpsi
          refine tail_nil (hK57 _ _ ?_)
          refine wp_cond_split e94 (fun hc => ?_) (fun hc => ?_)
          · -- T: decide (((((lb x.ns name + 1) + k : Nat) : Int) : Int) < (x.ns.length : Int))
            have hlt := of_decide_eq_true hc
            have hltn : ((lb x.ns name + 1) + k) < x.ns.length := by omega
            have hltx : ((lb x.ns name + 1) + k) < x.xs.length := by omega
            have hwm := wts_mem hltx
            refine wp_skip (hK56 _ _ ?_)
            refine wp_seq_k fun K59 hK59 => ?_
            refine wp_block ?_
            refine wp_seq_k fun K60 hK60 => ?_
            refine wp_reg (fun k => k ∉ blks hd3_55) (Ψ := fun W => Arr W w.heap.size 9 1 (SF w (blks hd4_55 ++ (blks hd3_55 ++ (b11_26 :: (b6_2 :: (b3_2 :: [])))))) (List.map D.str (x.ns.take (lb x.ns name) ++ [name] ++ (x.ns.drop (lb x.ns name + 1)).take k)) va3_55 hd3_55) mixed hsz58 hdf58 (fun W W' k h => h.ext k) A3_55 ?_
            refine Chain.op (φ := Is (.pointer (some ⟨b11_26, 3, none⟩))) (st_is _) (sp_fieldO (Has.base rfl e11) Try.underlying25 rfl sz22 rfl) ?_
            refine Chain.op (φ := Is va3_55) (st_is _) (sp_loadO (v := va3_55) (Has.loc rfl) own_b11_26 nb_b11_26_ar31_55 agg22 sz22 (Nat.le_of_ble_eq_true rfl) (fun h => by first | rfl | cases h) rfl) ?_
            refine Chain.op (φ := Is (.pointer (some ⟨b3_2, 3, none⟩))) (st_is _) (sp_fieldO (Has.base rfl e3) Try.underlying25 rfl sz22 rfl) ?_
            refine Chain.op (φ := Is (.slice cn0a (x.ns.length) cn0c)) (st_is _) (sp_loadO (v := (.slice cn0a (x.ns.length) cn0c)) (Has.loc rfl) own_b3_2 nb_b3_2_ar31_55 agg22 sz22 (Nat.le_of_ble_eq_true rfl) (fun h => by first | rfl | cases h) rfl) ?_
            refine Chain.op (φ := Is (.int .i64 ((((lb x.ns name + 1) + k : Nat) : Int)))) (st_is _) (sp_move (Has.base rfl e13)) ?_
            refine Chain.op (φ := IsR (SA w S (blks hd4_55 ++ (blks hd3_55 ++ (b11_26 :: (b6_2 :: (b3_2 :: [])))))) (D.str (x.ns[((lb x.ns name + 1) + k)]'hltn))) (st_r (sub_nb (fun b hb => List.mem_append_right _ (List.mem_append_left _ hb)))) (sp_indexS (i := ((lb x.ns name + 1) + k)) ((Has.loc rfl).dat D_cn0 (sub_nb (fun b hb => List.mem_append_right _ (List.mem_append_left _ hb)))) (Has.loc rfl) Try.underlying22 sz9 rfl hltn) ?_
            refine Chain.op (φ := Is (.string (x.ns[((lb x.ns name + 1) + k)]'hltn))) (st_is _) (sp_loadStr (Has.loc rfl) agg9 sz9) ?_
            refine Chain.op (φ := IsD (SF w (blks hd4_55 ++ (blks hd3_55 ++ (b11_26 :: (b6_2 :: (b3_2 :: [])))))) (strsD ([x.ns[((lb x.ns name + 1) + k)]'hltn]))) (st_d (sub_nbF (fun b hb => List.mem_append_right _ (List.mem_append_left _ hb)))) (sp_bsl (ds := [D.str (x.ns[((lb x.ns name + 1) + k)]'hltn)]) Try.underlying22 sz9 z9 (Nat.le_of_ble_eq_true rfl) (Nat.le_of_ble_eq_true rfl) ⟨rfl, ((Has.loc rfl).str (rd_strAt D_cn0 _ hltn)), trivial⟩ rfl (by simp [width]) (fr_sf kw (in_app A4_55.lt (in_app A3_55.lt (in_cons own_b11_26.lt (in_cons own_b6_2.lt (in_cons own_b3_2.lt in_nil))))))) ?_
            refine Chain.appB (ds := List.map D.str (x.ns.take (lb x.ns name) ++ [name] ++ (x.ns.drop (lb x.ns name + 1)).take k)) (es := [D.str (x.ns[((lb x.ns name + 1) + k)]'hltn)]) (X := SF w (blks hd4_55 ++ (blks hd3_55 ++ (b11_26 :: (b6_2 :: (b3_2 :: [])))))) Try.underlying22 inf9 (Nat.le_of_ble_eq_true rfl) (Has.loc rfl) (Has.loc rfl) (sub_nbF (fun b hb => List.mem_append_right _ (List.mem_append_left _ hb))) (by simp [maxLen]; omega) (by simp; omega) kw.size ?_
            refine Chain.op (φ := Is (.pointer (some ⟨b11_26, 3, none⟩))) (st_is _) (sp_fieldO (Has.base rfl e11) Try.underlying25 rfl sz22 rfl) ?_
            refine Chain.done ⟨by kernel_rfl, fun a61 g W61 hsz61 hdf61 hk hg henv hrest hpsi => ?_⟩
            obtain ⟨e106, e105, -, -, -, -, -, -, -, -, -⟩ := henv
            replace e6 := (hrest 6 rfl).trans e6
            replace e3 := (hrest 3 rfl).trans e3
            replace e11 := (hrest 11 rfl).trans e11
            replace e13 := (hrest 13 rfl).trans e13
            obtain ⟨v105_61, ev⟩ : ∃ v, sl a61 105 = v := ⟨_, rfl⟩
            rw [ev] at e105
            obtain ⟨hd105_61, A_105_61, hf105_61⟩ := e105
            have e105 := ev; clear ev
            obtain ⟨v105_61a, v105_61n, v105_61c, ev⟩ := arr_sl A_105_61; subst ev
            replace A_105_61 := arrF_new (M' := (blks hd4_55 ++ (blks hd105_61 ++ (b11_26 :: (b6_2 :: (b3_2 :: [])))))) A_105_61 (rep_app rep_refl (rep_app (rep_q fun _ h => h) (rep_cons (rep_cons (rep_cons rep_nil)))))
            replace A_105_61 : Arr W61 w.heap.size 9 1 (SF w (blks hd4_55 ++ (blks hd105_61 ++ (b11_26 :: (b6_2 :: (b3_2 :: [])))))) (List.map D.str ((x.ns.take (lb x.ns name) ++ [name] ++ (x.ns.drop (lb x.ns name + 1)).take k) ++ [x.ns[((lb x.ns name + 1) + k)]'hltn])) (.slice v105_61a v105_61n v105_61c) hd105_61 := by first | exact A_105_61 | (rw [List.map_append]; exact A_105_61)
            have nb_b6_2_61 : b6_2 ∉ blks hd105_61 := nb_new nb_b6_2_ar31_55 own_b6_2.lt hf105_61
            have nb_b3_2_61 : b3_2 ∉ blks hd105_61 := nb_new nb_b3_2_ar31_55 own_b3_2.lt hf105_61
            have nb_b11_26_61 : b11_26 ∉ blks hd105_61 := nb_new nb_b11_26_ar31_55 own_b11_26.lt hf105_61
            have dj_ar32_61 : ∀ b ∈ blks hd4_55, b ∉ blks hd105_61 := dj_new (dj_symm dj_ar31_ar32_55) A4_55.lt hf105_61
            replace A4_55 := arrF_app (M' := (blks hd4_55 ++ (blks hd105_61 ++ (b11_26 :: (b6_2 :: (b3_2 :: [])))))) A4_55 hk (fun b hb => List.mem_append_right _ (List.mem_append_left _ hb)) (rep_app rep_refl (rep_app hf105_61 (rep_cons (rep_cons (rep_cons rep_nil))))) (dj_symm dj_ar31_ar32_55)
            replace D_cn0 := sa_app (M' := (blks hd4_55 ++ (blks hd105_61 ++ (b11_26 :: (b6_2 :: (b3_2 :: [])))))) D_cn0 hk (fun b hb => List.mem_append_right _ (List.mem_append_left _ hb)) (rep_app rep_refl (rep_app hf105_61 (rep_cons (rep_cons (rep_cons rep_nil)))))
            replace D_ci0 := sa_app (M' := (blks hd4_55 ++ (blks hd105_61 ++ (b11_26 :: (b6_2 :: (b3_2 :: [])))))) D_ci0 hk (fun b hb => List.mem_append_right _ (List.mem_append_left _ hb)) (rep_app rep_refl (rep_app hf105_61 (rep_cons (rep_cons (rep_cons rep_nil)))))
            replace own_b6_2 := own_app own_b6_2 hk nb_b6_2_ar31_55
            replace own_b3_2 := own_app own_b3_2 hk nb_b3_2_ar31_55
            replace own_b11_26 := own_app own_b11_26 hk nb_b11_26_ar31_55
            replace kw := keeps_app kw hk A3_55.ge
            have e106 : sl a61 106 = (.pointer (some ⟨b11_26, 3, none⟩)) := e106
            clear hrest hk hg hpsi hf105_61 A3_55
            refine tail_store (b := b11_26) (o := 3) (v := (.slice v105_61a v105_61n v105_61c)) e106 e105 sz22 rfl own_b11_26 (Nat.le_of_ble_eq_true rfl) (all_cons rfl all_nil) (fun W62 hs own_b11_26 => ?_)
            have own_b11_26 : Own W62 b11_26 [(.int .u8 (x.k)), (.int .i64 (x.n)), (.string (x.t)), (.slice v105_61a v105_61n v105_61c), va4_55] 25 := own_b11_26
            replace own_b6_2 := own_store own_b6_2 hs ne_b6_2_b11_26
            replace own_b3_2 := own_store own_b3_2 hs ne_b3_2_b11_26
            replace D_cn0 := sa_store D_cn0 hs (by simp)
            replace D_ci0 := sa_store D_ci0 hs (by simp)
            replace A_105_61 := arrF_store A_105_61 hs (by simp) nb_b11_26_61
            replace A4_55 := arrF_store A4_55 hs (by simp) nb_b11_26_ar32_55
            replace kw := keeps_store kw hs lo_b11_26
            clear hs
            refine tail_nil (hK60 _ _ ?_)
            refine wp_reg (fun k => k ∉ blks hd4_55) (Ψ := fun W => Arr W w.heap.size 25 5 (SF w (blks hd4_55 ++ (blks hd105_61 ++ (b11_26 :: (b6_2 :: (b3_2 :: [])))))) (List.map V.d (x.xs.take (lb x.ns name) ++ [y] ++ (x.xs.drop (lb x.ns name + 1)).take k)) va4_55 hd4_55) mixed hsz61 hdf61 (fun W W' k h => h.ext k) A4_55 ?_
            refine Chain.op (φ := Is (.pointer (some ⟨b11_26, 4, none⟩))) (st_is _) (sp_fieldO (Has.base rfl e11) Try.underlying25 rfl sz23 rfl) ?_
            refine Chain.op (φ := Is va4_55) (st_is _) (sp_loadO (v := va4_55) (Has.loc rfl) own_b11_26 nb_b11_26_ar32_55 agg23 sz23 (Nat.le_of_ble_eq_true rfl) (fun h => by first | rfl | cases h) rfl) ?_
            refine Chain.op (φ := Is (.pointer (some ⟨b3_2, 4, none⟩))) (st_is _) (sp_fieldO (Has.base rfl e3) Try.underlying25 rfl sz23 rfl) ?_
            refine Chain.op (φ := Is (.slice ci0a (x.xs.length) ci0c)) (st_is _) (sp_loadO (v := (.slice ci0a (x.xs.length) ci0c)) (Has.loc rfl) own_b3_2 nb_b3_2_ar32_55 agg23 sz23 (Nat.le_of_ble_eq_true rfl) (fun h => by first | rfl | cases h) rfl) ?_
            refine Chain.op (φ := Is (.int .i64 ((((lb x.ns name + 1) + k : Nat) : Int)))) (st_is _) (sp_move (Has.base rfl e13)) ?_
            refine Chain.op (φ := IsR (SA w S (blks hd4_55 ++ (blks hd105_61 ++ (b11_26 :: (b6_2 :: (b3_2 :: [])))))) (V.d (x.xs[((lb x.ns name + 1) + k)]'hltx))) (st_r (sub_nb (fun b hb => List.mem_append_left _ hb))) (sp_indexV (i := ((lb x.ns name + 1) + k)) ((Has.loc rfl).dat D_ci0 (sub_nb (fun b hb => List.mem_append_left _ hb))) (Has.loc rfl) Try.underlying23 sz25 rfl hltx) ?_
            refine Chain.op (φ := IsD (SA w S (blks hd4_55 ++ (blks hd105_61 ++ (b11_26 :: (b6_2 :: (b3_2 :: [])))))) (V.d (x.xs[((lb x.ns name + 1) + k)]'hltx))) (st_d (sub_nb (fun b hb => List.mem_append_left _ hb))) (sp_loadV (Has.loc rfl) agg25 sz25) ?_
            refine Chain.op (φ := IsD (Fr W62) (V.d (x.xs[((lb x.ns name + 1) + k)]'hltx))) (st_d (sub_frnb (fun b hb => A4_55.lt b hb))) (sp_call1 (φ1 := IsD (SA w S (blks hd4_55 ++ (blks hd105_61 ++ (b11_26 :: (b6_2 :: (b3_2 :: [])))))) (V.d (x.xs[((lb x.ns name + 1) + k)]'hltx))) ent14 (Has.loc rfl) (fun g u1 W hk hgk h1 => (Copy_ok (x.xs[((lb x.ns name + 1) + k)]'hltx) (by first | omega | exact Nat.le_of_ble_eq_true (by kernel_rfl)) W _ _ (fun b o h => sa_cln hS b o h.1) h1).mono (ret_fr hk hgk))) ?_
            refine Chain.op (φ := IsD (SF w (blks hd4_55 ++ (blks hd105_61 ++ (b11_26 :: (b6_2 :: (b3_2 :: [])))))) (valsD ([x.xs[((lb x.ns name + 1) + k)]'hltx]))) (st_d (sub_nbF (fun b hb => List.mem_append_left _ hb))) (sp_bsl (ds := [V.d (x.xs[((lb x.ns name + 1) + k)]'hltx)]) Try.underlying23 sz25 z25 (Nat.le_of_ble_eq_true rfl) (Nat.le_of_ble_eq_true rfl) ⟨rfl, ((Has.loc rfl).sup (fr_sf kw (in_app A4_55.lt (in_app A_105_61.lt (in_cons own_b11_26.lt (in_cons own_b6_2.lt (in_cons own_b3_2.lt in_nil))))))), trivial⟩ rfl (by intro e he; simp at he; rcases he with rfl <;> exact width_V _) (fr_sf kw (in_app A4_55.lt (in_app A_105_61.lt (in_cons own_b11_26.lt (in_cons own_b6_2.lt (in_cons own_b3_2.lt in_nil))))))) ?_
            refine Chain.appB (ds := List.map V.d (x.xs.take (lb x.ns name) ++ [y] ++ (x.xs.drop (lb x.ns name + 1)).take k)) (es := [V.d (x.xs[((lb x.ns name + 1) + k)]'hltx)]) (X := SF w (blks hd4_55 ++ (blks hd105_61 ++ (b11_26 :: (b6_2 :: (b3_2 :: [])))))) Try.underlying23 inf25 (Nat.le_of_ble_eq_true rfl) (Has.loc rfl) (Has.loc rfl) (sub_nbF (fun b hb => List.mem_append_left _ hb)) (by simp [maxLen]; omega) (by simp; omega) kw.size ?_
            refine Chain.op (φ := Is (.pointer (some ⟨b11_26, 4, none⟩))) (st_is _) (sp_fieldO (Has.base rfl e11) Try.underlying25 rfl sz23 rfl) ?_
            refine Chain.done ⟨by kernel_rfl, fun a63 g W63 hsz63 hdf63 hk hg henv hrest hpsi => ?_⟩
            obtain ⟨e117, e116, -, -, -, -, -, -, -, -, -, -⟩ := henv
            replace e6 := (hrest 6 rfl).trans e6
            replace e3 := (hrest 3 rfl).trans e3
            replace e11 := (hrest 11 rfl).trans e11
            replace e13 := (hrest 13 rfl).trans e13
            obtain ⟨v116_63, ev⟩ : ∃ v, sl a63 116 = v := ⟨_, rfl⟩
            rw [ev] at e116
            obtain ⟨hd116_63, A_116_63, hf116_63⟩ := e116
            have e116 := ev; clear ev
            obtain ⟨v116_63a, v116_63n, v116_63c, ev⟩ := arr_sl A_116_63; subst ev
            replace A_116_63 := arrF_new (M' := (blks hd116_63 ++ (blks hd105_61 ++ (b11_26 :: (b6_2 :: (b3_2 :: [])))))) A_116_63 (rep_app (rep_q fun _ h => h) (rep_app rep_refl (rep_cons (rep_cons (rep_cons rep_nil)))))
            replace A_116_63 : Arr W63 w.heap.size 25 5 (SF w (blks hd116_63 ++ (blks hd105_61 ++ (b11_26 :: (b6_2 :: (b3_2 :: [])))))) (List.map V.d ((x.xs.take (lb x.ns name) ++ [y] ++ (x.xs.drop (lb x.ns name + 1)).take k) ++ [x.xs[((lb x.ns name + 1) + k)]'hltx])) (.slice v116_63a v116_63n v116_63c) hd116_63 := by first | exact A_116_63 | (rw [List.map_append]; exact A_116_63)
            have nb_b6_2_63 : b6_2 ∉ blks hd116_63 := nb_new nb_b6_2_ar32_55 own_b6_2.lt hf116_63
            have nb_b3_2_63 : b3_2 ∉ blks hd116_63 := nb_new nb_b3_2_ar32_55 own_b3_2.lt hf116_63
            have nb_b11_26_63 : b11_26 ∉ blks hd116_63 := nb_new nb_b11_26_ar32_55 own_b11_26.lt hf116_63
            have dj_ar31_63 : ∀ b ∈ blks hd105_61, b ∉ blks hd116_63 := dj_new (dj_symm dj_ar32_61) A_105_61.lt hf116_63
            replace A_105_61 := arrF_app (M' := (blks hd116_63 ++ (blks hd105_61 ++ (b11_26 :: (b6_2 :: (b3_2 :: [])))))) A_105_61 hk (fun b hb => List.mem_append_left _ hb) (rep_app hf116_63 (rep_app rep_refl (rep_cons (rep_cons (rep_cons rep_nil))))) (dj_symm dj_ar32_61)
            replace D_cn0 := sa_app (M' := (blks hd116_63 ++ (blks hd105_61 ++ (b11_26 :: (b6_2 :: (b3_2 :: [])))))) D_cn0 hk (fun b hb => List.mem_append_left _ hb) (rep_app hf116_63 (rep_app rep_refl (rep_cons (rep_cons (rep_cons rep_nil)))))
            replace D_ci0 := sa_app (M' := (blks hd116_63 ++ (blks hd105_61 ++ (b11_26 :: (b6_2 :: (b3_2 :: [])))))) D_ci0 hk (fun b hb => List.mem_append_left _ hb) (rep_app hf116_63 (rep_app rep_refl (rep_cons (rep_cons (rep_cons rep_nil)))))
            replace own_b6_2 := own_app own_b6_2 hk nb_b6_2_ar32_55
            replace own_b3_2 := own_app own_b3_2 hk nb_b3_2_ar32_55
            replace own_b11_26 := own_app own_b11_26 hk nb_b11_26_ar32_55
            replace kw := keeps_app kw hk A4_55.ge
            have e117 : sl a63 117 = (.pointer (some ⟨b11_26, 4, none⟩)) := e117
            clear hrest hk hg hpsi hf116_63 A4_55
            refine tail_store (b := b11_26) (o := 4) (v := (.slice v116_63a v116_63n v116_63c)) e117 e116 sz23 rfl own_b11_26 (Nat.le_of_ble_eq_true rfl) (all_cons rfl all_nil) (fun W64 hs own_b11_26 => ?_)
            have own_b11_26 : Own W64 b11_26 [(.int .u8 (x.k)), (.int .i64 (x.n)), (.string (x.t)), (.slice v105_61a v105_61n v105_61c), (.slice v116_63a v116_63n v116_63c)] 25 := own_b11_26
            replace own_b6_2 := own_store own_b6_2 hs ne_b6_2_b11_26
            replace own_b3_2 := own_store own_b3_2 hs ne_b3_2_b11_26
            replace D_cn0 := sa_store D_cn0 hs (by simp)
            replace D_ci0 := sa_store D_ci0 hs (by simp)
            replace A_105_61 := arrF_store A_105_61 hs (by simp) nb_b11_26_61
            replace A_116_63 := arrF_store A_116_63 hs (by simp) nb_b11_26_63
            replace kw := keeps_store kw hs lo_b11_26
            clear hs
            refine tail_nil (hK59 _ _ ?_)
            refine wp_reg All mixed hsz63 hdf63 st_tr trivial ?_
            refine Chain.op (φ := Is (.int .i64 ((((lb x.ns name + 1) + k : Nat) : Int)))) (st_is _) (sp_move (Has.base rfl e13)) ?_
            refine Chain.op (φ := Is (.int .i64 (((((lb x.ns name + 1) + k : Nat) : Int) : Int) + (1 : Int)))) (st_is _) (sp_add (Has.loc rfl) Has.cst (i64_in (by omega))) ?_
            refine Chain.op (φ := Is (.int .i64 (((((lb x.ns name + 1) + k : Nat) : Int) : Int) + (1 : Int)))) (st_is _) (sp_assign (Has.loc rfl)) ?_
            refine Chain.done ⟨by kernel_rfl, fun a65 g W65 hsz65 hdf65 hk hg henv hrest hpsi => ?_⟩
            obtain ⟨e13, -, -, -⟩ := henv
            replace e6 := (hrest 6 rfl).trans e6
            replace e3 := (hrest 3 rfl).trans e3
            replace e11 := (hrest 11 rfl).trans e11
            replace A_105_61 := A_105_61.ext hk
            replace A_116_63 := A_116_63.ext hk
            replace D_cn0 := D_cn0.ext hk
            replace D_ci0 := D_ci0.ext hk
            have e13 : sl a65 13 = (.int .i64 (((((lb x.ns name + 1) + k : Nat) : Int) : Int) + (1 : Int))) := e13
            replace own_b6_2 := own_b6_2.ext hk
            replace own_b3_2 := own_b3_2.ext hk
            replace own_b11_26 := own_b11_26.ext hk
            replace kw := kw.trans (.of_ext hk)
            clear hrest hk hg hpsi
            rw [show (x.ns.take (lb x.ns name) ++ [name] ++ (x.ns.drop (lb x.ns name + 1)).take k) ++ [x.ns[((lb x.ns name + 1) + k)]'hltn] = x.ns.take (lb x.ns name) ++ [name] ++ (x.ns.drop (lb x.ns name + 1)).take (k + 1) by rw [List.append_assoc, tds _ _ _ hltn]] at A_105_61
            rw [show (x.xs.take (lb x.ns name) ++ [y] ++ (x.xs.drop (lb x.ns name + 1)).take k) ++ [x.xs[((lb x.ns name + 1) + k)]'hltx] = x.xs.take (lb x.ns name) ++ [y] ++ (x.xs.drop (lb x.ns name + 1)).take (k + 1) by rw [List.append_assoc, tds _ _ _ hltx]] at A_116_63
            exact tail_nil ⟨by omega, (.slice v105_61a v105_61n v105_61c), hd105_61, (.slice v116_63a v116_63n v116_63c), hd116_63, hsz65, hdf65, kw, e3, e6, e11, (e13.trans (congrArg (Value.int .i64) (by omega))), own_b6_2, own_b3_2, own_b11_26, D_cn0, D_ci0, A_105_61, nb_b6_2_61, nb_b3_2_61, nb_b11_26_61, A_116_63, nb_b6_2_63, nb_b3_2_63, nb_b11_26_63, dj_ar31_63⟩
          · -- E: decide (((((lb x.ns name + 1) + k : Nat) : Int) : Int) < (x.ns.length : Int))
            have hge0 := of_decide_eq_false hc
            rw [show x.ns.take (lb x.ns name) ++ [name] ++ (x.ns.drop (lb x.ns name + 1)).take k = x.ns.take (lb x.ns name) ++ [name] ++ x.ns.drop (lb x.ns name + 1) by rw [tdall _ _ _ (by omega)]] at A3_55
            have D_va3_55 : Rd W58 (SF w (blks hd4_55 ++ (b11_26 :: (b6_2 :: (b3_2 :: []))))) (strsD (x.ns.take (lb x.ns name) ++ [name] ++ x.ns.drop (lb x.ns name + 1))) va3_55 := arrF_rd A3_55 (ls_keepA (ls_skipA (ls_keep (ls_keep (ls_keep ls_nil))))) (nin_app dj_ar31_ar32_55 (nin_cons nb_b11_26_ar31_55 (nin_cons nb_b6_2_ar31_55 (nin_cons nb_b3_2_ar31_55 nin_nil))))
            obtain ⟨va3_55a, va3_55c, ev, D2⟩ := rdS_out D_va3_55
            subst ev; replace D_va3_55 := D2; clear D2
            replace D_cn0 := sa_less (M' := (blks hd4_55 ++ (b11_26 :: (b6_2 :: (b3_2 :: []))))) D_cn0 (ls_keepA (ls_skipA (ls_keep (ls_keep (ls_keep ls_nil)))))
            replace D_ci0 := sa_less (M' := (blks hd4_55 ++ (b11_26 :: (b6_2 :: (b3_2 :: []))))) D_ci0 (ls_keepA (ls_skipA (ls_keep (ls_keep (ls_keep ls_nil)))))
            replace A4_55 := arrF_less (M' := (blks hd4_55 ++ (b11_26 :: (b6_2 :: (b3_2 :: []))))) A4_55 (ls_keepA (ls_skipA (ls_keep (ls_keep (ls_keep ls_nil)))))
            rw [show x.xs.take (lb x.ns name) ++ [y] ++ (x.xs.drop (lb x.ns name + 1)).take k = x.xs.take (lb x.ns name) ++ [y] ++ x.xs.drop (lb x.ns name + 1) by rw [tdall _ _ _ (by omega)]] at A4_55
            have D_va4_55 : Rd W58 (SF w [b11_26, b6_2, b3_2]) (valsD (x.xs.take (lb x.ns name) ++ [y] ++ x.xs.drop (lb x.ns name + 1))) va4_55 := arrF_rd A4_55 (ls_skipA (ls_keep (ls_keep (ls_keep ls_nil)))) (nin_cons nb_b11_26_ar32_55 (nin_cons nb_b6_2_ar32_55 (nin_cons nb_b3_2_ar32_55 nin_nil)))
            obtain ⟨va4_55a, va4_55c, ev, D2⟩ := rdVs_out D_va4_55
            subst ev; replace D_va4_55 := D2; clear D2
            replace D_cn0 := sa_less (M' := [b11_26, b6_2, b3_2]) D_cn0 (ls_skipA (ls_keep (ls_keep (ls_keep ls_nil))))
            replace D_ci0 := sa_less (M' := [b11_26, b6_2, b3_2]) D_ci0 (ls_skipA (ls_keep (ls_keep (ls_keep ls_nil))))
            replace D_va3_55 := sf_less (M' := [b11_26, b6_2, b3_2]) D_va3_55 (ls_skipA (ls_keep (ls_keep (ls_keep ls_nil))))
            refine wp_exit (hK52 _ _ ?_)
            refine wp_seq_k fun K66 hK66 => ?_
            refine wp_reg All mixed hsz58 hdf58 st_tr trivial ?_
            refine Chain.op (φ := Is (.agg #[(.int .u8 (x.k)), (.int .i64 (x.n)), (.string (x.t)), (.slice va3_55a ((x.ns.take (lb x.ns name) ++ [name] ++ x.ns.drop (lb x.ns name + 1)).length) va3_55c), (.slice va4_55a ((x.xs.take (lb x.ns name) ++ [y] ++ x.xs.drop (lb x.ns name + 1)).length) va4_55c)])) (st_is _) (sp_loadO (v := (.agg #[(.int .u8 (x.k)), (.int .i64 (x.n)), (.string (x.t)), (.slice va3_55a ((x.ns.take (lb x.ns name) ++ [name] ++ x.ns.drop (lb x.ns name + 1)).length) va3_55c), (.slice va4_55a ((x.xs.take (lb x.ns name) ++ [y] ++ x.xs.drop (lb x.ns name + 1)).length) va4_55c)])) (Has.base rfl e11) own_b11_26 trivial agg25 sz25 (Nat.le_of_ble_eq_true rfl) (fun h => by first | rfl | cases h) rfl) ?_
            refine Chain.done ⟨by kernel_rfl, fun a67 g W67 hsz67 hdf67 hk hg henv hrest hpsi => ?_⟩
            obtain ⟨e118, -⟩ := henv
            replace e6 := (hrest 6 rfl).trans e6
            replace D_cn0 := D_cn0.ext hk
            replace D_ci0 := D_ci0.ext hk
            replace D_va3_55 := D_va3_55.ext hk
            replace D_va4_55 := D_va4_55.ext hk
            have e118 : sl a67 118 = (.agg #[(.int .u8 (x.k)), (.int .i64 (x.n)), (.string (x.t)), (.slice va3_55a ((x.ns.take (lb x.ns name) ++ [name] ++ x.ns.drop (lb x.ns name + 1)).length) va3_55c), (.slice va4_55a ((x.xs.take (lb x.ns name) ++ [y] ++ x.xs.drop (lb x.ns name + 1)).length) va4_55c)]) := e118
            replace own_b6_2 := own_b6_2.ext hk
            replace own_b3_2 := own_b3_2.ext hk
            replace own_b11_26 := own_b11_26.ext hk
            replace kw := kw.trans (.of_ext hk)
            clear hrest hk hg hpsi
            refine tail_store (b := b6_2) (o := 0) (v := (.agg #[(.int .u8 (x.k)), (.int .i64 (x.n)), (.string (x.t)), (.slice va3_55a ((x.ns.take (lb x.ns name) ++ [name] ++ x.ns.drop (lb x.ns name + 1)).length) va3_55c), (.slice va4_55a ((x.xs.take (lb x.ns name) ++ [y] ++ x.xs.drop (lb x.ns name + 1)).length) va4_55c)])) e6 e118 sz25 rfl own_b6_2 (Nat.le_of_ble_eq_true rfl) (all_cons rfl (all_cons rfl (all_cons rfl (all_cons rfl (all_cons rfl all_nil))))) (fun W68 hs own_b6_2 => ?_)
            have own_b6_2 : Own W68 b6_2 [(.int .u8 (x.k)), (.int .i64 (x.n)), (.string (x.t)), (.slice va3_55a ((x.ns.take (lb x.ns name) ++ [name] ++ x.ns.drop (lb x.ns name + 1)).length) va3_55c), (.slice va4_55a ((x.xs.take (lb x.ns name) ++ [y] ++ x.xs.drop (lb x.ns name + 1)).length) va4_55c)] 25 := own_b6_2
            replace own_b3_2 := own_store own_b3_2 hs ne_b6_2_b3_2.symm
            replace own_b11_26 := own_store own_b11_26 hs ne_b6_2_b11_26.symm
            replace D_cn0 := sa_store D_cn0 hs (by simp)
            replace D_ci0 := sa_store D_ci0 hs (by simp)
            replace D_va3_55 := sf_store D_va3_55 hs (by simp)
            replace D_va4_55 := sf_store D_va4_55 hs (by simp)
            replace kw := keeps_store kw hs lo_b6_2
            clear hs
            refine tail_assign (v := (.int .i64 (0))) rfl (by rw [hsz67]; exact Nat.le_of_ble_eq_true rfl) (fun a69 hsz69 hdf69 e7 hr => ?_)
            replace hsz69 := hsz69.trans hsz67; replace hdf69 := hdf69.trans hdf67
            replace e6 := (hr 6 (by decide)).trans e6
            replace e118 := (hr 118 (by decide)).trans e118
            clear hr
            refine tail_nil (hK66 _ _ ?_)
            refine wp_ret ?_
            refine (show bodyPost Try.prog Try.f25 _ .ret _ _ from retCT (v := (.agg #[(.int .u8 (x.k)), (.int .i64 (x.n)), (.string (x.t)), (.slice va3_55a ((x.ns.take (lb x.ns name) ++ [name] ++ x.ns.drop (lb x.ns name + 1)).length) va3_55c), (.slice va4_55a ((x.xs.take (lb x.ns name) ++ [y] ++ x.xs.drop (lb x.ns name + 1)).length) va4_55c)])) rfl hdf69 e6 own_b6_2 agg25 sz25 rfl (fun h => by cases h) rfl e7 ⟨_, rfl, kw, ?_⟩)
            refine ⟨_, by simp only [hwe]; rfl, ?_⟩
            rw [hwv]
            exact sf_fr (rdV_mk ht0 D_va3_55 D_va4_55 : Rd W68 (SF w [b11_26, b6_2, b3_2]) (V.d (V.mk (x.k) (x.n) (x.t) (x.ns.take (lb x.ns name) ++ [name] ++ x.ns.drop (lb x.ns name + 1)) (x.xs.take (lb x.ns name) ++ [y] ++ x.xs.drop (lb x.ns name + 1)))) _)
      · -- E: decide (x.ns[lb x.ns name]? = some name)
        have hfd := of_decide_eq_false hc
        have hwv : withV x name y = V.mk x.k x.n x.t (x.ns.take (lb x.ns name) ++ [name] ++ x.ns.drop (lb x.ns name)) (x.xs.take (lb x.ns name) ++ [y] ++ x.xs.drop (lb x.ns name)) := by rw [withV, if_neg hk, if_neg hl, withR, if_neg hfd]
        refine wp_skip (hK21 _ _ ?_)
        refine wp_seq_k fun K70 hK70 => ?_
        refine wp_reg All mixed hsz23 hdf23 st_tr trivial ?_
        refine Chain.op (φ := Is (.pointer (some ⟨b3_2, 0, none⟩))) (st_is _) (sp_fieldO (Has.base rfl e3) Try.underlying25 rfl sz5 rfl) ?_
        refine Chain.op (φ := Is (.int .u8 (x.k))) (st_is _) (sp_loadO (v := (.int .u8 (x.k))) (Has.loc rfl) own_b3_2 trivial agg5 sz5 (Nat.le_of_ble_eq_true rfl) (fun h => by first | rfl | cases h) rfl) ?_
        refine Chain.op (φ := Is (.pointer (some ⟨b3_2, 1, none⟩))) (st_is _) (sp_fieldO (Has.base rfl e3) Try.underlying25 rfl sz2 rfl) ?_
        refine Chain.op (φ := Is (.int .i64 (x.n))) (st_is _) (sp_loadO (v := (.int .i64 (x.n))) (Has.loc rfl) own_b3_2 trivial agg2 sz2 (Nat.le_of_ble_eq_true rfl) (fun h => by first | rfl | cases h) rfl) ?_
        refine Chain.op (φ := Is (.pointer (some ⟨b3_2, 2, none⟩))) (st_is _) (sp_fieldO (Has.base rfl e3) Try.underlying25 rfl sz9 rfl) ?_
        refine Chain.op (φ := Is (.string (x.t))) (st_is _) (sp_loadO (v := (.string (x.t))) (Has.loc rfl) own_b3_2 trivial agg9 sz9 (Nat.le_of_ble_eq_true rfl) (fun h => by first | rfl | cases h) rfl) ?_
        refine Chain.op (φ := Is (.agg #[(.int .u8 (x.k)), (.int .i64 (x.n)), (.string (x.t)), (.slice none 0 0), (.slice none 0 0)])) (st_is _) (sp_build (vs := [(0, (.int .u8 (x.k))), (1, (.int .i64 (x.n))), (2, (.string (x.t)))]) Try.underlying25 z25 (pl25 Try.underlying25) ⟨rfl, (Has.loc rfl), rfl, (Has.loc rfl), rfl, (Has.loc rfl), trivial⟩ rfl) ?_
        refine Chain.alloc z25 ?_
        refine Chain.done ⟨by kernel_rfl, fun a71 g W71 hsz71 hdf71 hk hg henv hrest hpsi => ?_⟩
        obtain ⟨⟨b11_71, e11, hb11, own_b11_71⟩, e49, -, -, -, -, -, -, -⟩ := henv
        have lo_b11_71 : w.heap.size ≤ b11_71 := Nat.le_trans kw.size (hg.lo _ _ hb11)
        have ne_b6_2_b11_71 : b6_2 ≠ b11_71 := Nat.ne_of_lt (Nat.lt_of_lt_of_le own_b6_2.lt (hg.lo _ _ hb11))
        have ne_b5_2_b11_71 : b5_2 ≠ b11_71 := Nat.ne_of_lt (Nat.lt_of_lt_of_le own_b5_2.lt (hg.lo _ _ hb11))
        have ne_b3_2_b11_71 : b3_2 ≠ b11_71 := Nat.ne_of_lt (Nat.lt_of_lt_of_le own_b3_2.lt (hg.lo _ _ hb11))
        have own_b11_71 : Own W71 b11_71 [(.int .u8 (0)), (.int .i64 (0)), (.string (⟨#[]⟩)), (.slice none 0 0), (.slice none 0 0)] 25 := own_b11_71
        replace e1 := (hrest 1 rfl).trans e1
        replace e6 := (hrest 6 rfl).trans e6
        replace e5 := (hrest 5 rfl).trans e5
        replace e3 := (hrest 3 rfl).trans e3
        replace e8 := (hrest 8 rfl).trans e8
        replace e10 := (hrest 10 rfl).trans e10
        replace D_cn0 := sa_more D_cn0 hk [b11_71] (in_cons (hg.lo _ _ hb11) in_nil)
        replace D_ci0 := sa_more D_ci0 hk [b11_71] (in_cons (hg.lo _ _ hb11) in_nil)
        replace D_cn2 := sa_more D_cn2 hk [b11_71] (in_cons (hg.lo _ _ hb11) in_nil)
        replace D_ci2 := sa_more D_ci2 hk [b11_71] (in_cons (hg.lo _ _ hb11) in_nil)
        have e49 : sl a71 49 = (.agg #[(.int .u8 (x.k)), (.int .i64 (x.n)), (.string (x.t)), (.slice none 0 0), (.slice none 0 0)]) := e49
        replace own_b6_2 := own_b6_2.ext hk
        replace own_b5_2 := own_b5_2.ext hk
        replace own_b3_2 := own_b3_2.ext hk
        replace kw := kw.trans (.of_ext hk)
        clear hrest hk hg hpsi hb11
        refine tail_store (b := b11_71) (o := 0) (v := (.agg #[(.int .u8 (x.k)), (.int .i64 (x.n)), (.string (x.t)), (.slice none 0 0), (.slice none 0 0)])) e11 e49 sz25 rfl own_b11_71 (Nat.le_of_ble_eq_true rfl) (all_cons rfl (all_cons rfl (all_cons rfl (all_cons rfl (all_cons rfl all_nil))))) (fun W72 hs own_b11_71 => ?_)
        have own_b11_71 : Own W72 b11_71 [(.int .u8 (x.k)), (.int .i64 (x.n)), (.string (x.t)), (.slice none 0 0), (.slice none 0 0)] 25 := own_b11_71
        replace own_b6_2 := own_store own_b6_2 hs ne_b6_2_b11_71
        replace own_b5_2 := own_store own_b5_2 hs ne_b5_2_b11_71
        replace own_b3_2 := own_store own_b3_2 hs ne_b3_2_b11_71
        replace D_cn0 := sa_store D_cn0 hs (by simp)
        replace D_ci0 := sa_store D_ci0 hs (by simp)
        replace D_cn2 := sa_store D_cn2 hs (by simp)
        replace D_ci2 := sa_store D_ci2 hs (by simp)
        replace kw := keeps_store kw hs lo_b11_71
        clear hs
        refine tail_nil (hK70 _ _ ?_)
        refine wp_seq_k fun K73 hK73 => ?_
        refine wp_seq_k fun K74 hK74 => ?_
        refine wp_reg All mixed hsz71 hdf71 st_tr trivial ?_
        refine Chain.op (φ := Is (.int .i64 (((lb x.ns name : Nat) : Int)))) (st_is _) (sp_move (Has.base rfl e8)) ?_
        refine Chain.op (φ := Is (.int .i64 (0))) (st_is _) (sp_move Has.cst) ?_
        refine Chain.done ⟨by kernel_rfl, fun a75 g W75 hsz75 hdf75 hk hg henv hrest hpsi => ?_⟩
        obtain ⟨e51, e50, -⟩ := henv
        replace e1 := (hrest 1 rfl).trans e1
        replace e6 := (hrest 6 rfl).trans e6
        replace e5 := (hrest 5 rfl).trans e5
        replace e3 := (hrest 3 rfl).trans e3
        replace e10 := (hrest 10 rfl).trans e10
        replace e11 := (hrest 11 rfl).trans e11
        replace D_cn0 := D_cn0.ext hk
        replace D_ci0 := D_ci0.ext hk
        replace D_cn2 := D_cn2.ext hk
        replace D_ci2 := D_ci2.ext hk
        have e50 : sl a75 50 = (.int .i64 (((lb x.ns name : Nat) : Int))) := e50
        have e51 : sl a75 51 = (.int .i64 (0)) := e51
        replace own_b6_2 := own_b6_2.ext hk
        replace own_b5_2 := own_b5_2.ext hk
        replace own_b3_2 := own_b3_2.ext hk
        replace own_b11_71 := own_b11_71.ext hk
        replace kw := kw.trans (.of_ext hk)
        clear hrest hk hg hpsi
        refine tail_nil (hK74 _ _ ?_)
        refine wp_block ?_
        have A_ar76 : Arr W75 w.heap.size 9 1 (SF w (blks none ++ (b11_71 :: (b6_2 :: (b5_2 :: (b3_2 :: [])))))) (List.map D.str ([])) (.slice none 0 0) none := arr_nil _ _ _ _ _
        replace D_cn0 : Rd W75 (SA w S (blks none ++ (b11_71 :: (b6_2 :: (b5_2 :: (b3_2 :: [])))))) (strsD (x.ns)) (.slice cn0a (x.ns.length) cn0c) := D_cn0
        replace D_ci0 : Rd W75 (SA w S (blks none ++ (b11_71 :: (b6_2 :: (b5_2 :: (b3_2 :: [])))))) (valsD (x.xs)) (.slice ci0a (x.xs.length) ci0c) := D_ci0
        replace D_cn2 : Rd W75 (SA w S (blks none ++ (b11_71 :: (b6_2 :: (b5_2 :: (b3_2 :: [])))))) (strsD (y.ns)) (.slice cn2a (y.ns.length) cn2c) := D_cn2
        replace D_ci2 : Rd W75 (SA w S (blks none ++ (b11_71 :: (b6_2 :: (b5_2 :: (b3_2 :: [])))))) (valsD (y.xs)) (.slice ci2a (y.xs.length) ci2c) := D_ci2
        have A_ar77 : Arr W75 w.heap.size 25 5 (SF w (blks (none) ++ (blks none ++ (b11_71 :: (b6_2 :: (b5_2 :: (b3_2 :: []))))))) (List.map V.d ([])) (.slice none 0 0) (none) := arr_nil _ _ _ _ _
        replace D_cn0 : Rd W75 (SA w S (blks (none) ++ (blks none ++ (b11_71 :: (b6_2 :: (b5_2 :: (b3_2 :: []))))))) (strsD (x.ns)) (.slice cn0a (x.ns.length) cn0c) := D_cn0
        replace D_ci0 : Rd W75 (SA w S (blks (none) ++ (blks none ++ (b11_71 :: (b6_2 :: (b5_2 :: (b3_2 :: []))))))) (valsD (x.xs)) (.slice ci0a (x.xs.length) ci0c) := D_ci0
        replace D_cn2 : Rd W75 (SA w S (blks (none) ++ (blks none ++ (b11_71 :: (b6_2 :: (b5_2 :: (b3_2 :: []))))))) (strsD (y.ns)) (.slice cn2a (y.ns.length) cn2c) := D_cn2
        replace D_ci2 : Rd W75 (SA w S (blks (none) ++ (blks none ++ (b11_71 :: (b6_2 :: (b5_2 :: (b3_2 :: []))))))) (valsD (y.xs)) (.slice ci2a (y.xs.length) ci2c) := D_ci2
        replace A_ar76 : Arr W75 w.heap.size 9 1 (SF w (blks (none) ++ (blks none ++ (b11_71 :: (b6_2 :: (b5_2 :: (b3_2 :: []))))))) (List.map D.str ([])) (.slice none 0 0) none := A_ar76
        refine wp_for (lb x.ns name) (fun k a W => ∃ (va3_78 : Value), ∃ (hd3_78 : Option Nat), ∃ (va4_78 : Value), ∃ (hd4_78 : Option Nat), a.tmps.size = 119 ∧ a.defers = [] ∧ Keeps All w W ∧ sl a 1 = (.string (name)) ∧ sl a 3 = (.pointer (some ⟨b3_2, 0, none⟩)) ∧ sl a 5 = (.pointer (some ⟨b5_2, 0, none⟩)) ∧ sl a 6 = (.pointer (some ⟨b6_2, 0, none⟩)) ∧ sl a 10 = (.int .i64 (((lb x.ns name : Nat) : Int))) ∧ sl a 11 = (.pointer (some ⟨b11_71, 0, none⟩)) ∧ sl a 50 = (.int .i64 (((lb x.ns name : Nat) : Int))) ∧ sl a 51 = (.int .i64 ((k : Nat))) ∧ Own W b6_2 [(.int .u8 (0)), (.int .i64 (0)), (.string (⟨#[]⟩)), (.slice none 0 0), (.slice none 0 0)] 25 ∧ Own W b5_2 [(.int .u8 (y.k)), (.int .i64 (y.n)), (.string (y.t)), (.slice cn2a (y.ns.length) cn2c), (.slice ci2a (y.xs.length) ci2c)] 25 ∧ Own W b3_2 [(.int .u8 (x.k)), (.int .i64 (x.n)), (.string (x.t)), (.slice cn0a (x.ns.length) cn0c), (.slice ci0a (x.xs.length) ci0c)] 25 ∧ Own W b11_71 [(.int .u8 (x.k)), (.int .i64 (x.n)), (.string (x.t)), va3_78, va4_78] 25 ∧ Rd W (SA w S (blks hd4_78 ++ (blks hd3_78 ++ (b11_71 :: (b6_2 :: (b5_2 :: (b3_2 :: []))))))) (strsD (x.ns)) (.slice cn0a (x.ns.length) cn0c) ∧ Rd W (SA w S (blks hd4_78 ++ (blks hd3_78 ++ (b11_71 :: (b6_2 :: (b5_2 :: (b3_2 :: []))))))) (valsD (x.xs)) (.slice ci0a (x.xs.length) ci0c) ∧ Rd W (SA w S (blks hd4_78 ++ (blks hd3_78 ++ (b11_71 :: (b6_2 :: (b5_2 :: (b3_2 :: []))))))) (strsD (y.ns)) (.slice cn2a (y.ns.length) cn2c) ∧ Rd W (SA w S (blks hd4_78 ++ (blks hd3_78 ++ (b11_71 :: (b6_2 :: (b5_2 :: (b3_2 :: []))))))) (valsD (y.xs)) (.slice ci2a (y.xs.length) ci2c) ∧ Arr W w.heap.size 9 1 (SF w (blks hd4_78 ++ (blks hd3_78 ++ (b11_71 :: (b6_2 :: (b5_2 :: (b3_2 :: []))))))) (List.map D.str (x.ns.take k)) va3_78 hd3_78 ∧ b6_2 ∉ blks hd3_78 ∧ b5_2 ∉ blks hd3_78 ∧ b3_2 ∉ blks hd3_78 ∧ b11_71 ∉ blks hd3_78 ∧ Arr W w.heap.size 25 5 (SF w (blks hd4_78 ++ (blks hd3_78 ++ (b11_71 :: (b6_2 :: (b5_2 :: (b3_2 :: []))))))) (List.map V.d (x.xs.take k)) va4_78 hd4_78 ∧ b6_2 ∉ blks hd4_78 ∧ b5_2 ∉ blks hd4_78 ∧ b3_2 ∉ blks hd4_78 ∧ b11_71 ∉ blks hd4_78 ∧ (∀ b ∈ blks hd3_78, b ∉ blks hd4_78)) ⟨(.slice none 0 0), none, (.slice none 0 0), (none), hsz75, hdf75, kw, e1, e3, e5, e6, e10, e11, e50, (e51.trans (congrArg (Value.int .i64) (rfl))), own_b6_2, own_b5_2, own_b3_2, own_b11_71, D_cn0, D_ci0, D_cn2, D_ci2, A_ar76, nb_none, nb_none, nb_none, nb_none, A_ar77, nb_none, nb_none, nb_none, nb_none, (fun _ _ => nb_none)⟩ ?_
        clear kw e1 e3 e5 e6 e10 e11 e50 e51 own_b6_2 own_b5_2 own_b3_2 own_b11_71 D_cn0 D_ci0 D_cn2 D_ci2 A_ar76 A_ar77
        rintro k a78 W78 hkk ⟨va3_78, hd3_78, va4_78, hd4_78, hsz78, hdf78, kw, e1, e3, e5, e6, e10, e11, e50, e51, own_b6_2, own_b5_2, own_b3_2, own_b11_71, D_cn0, D_ci0, D_cn2, D_ci2, A3_78, nb_b6_2_ar76_78, nb_b5_2_ar76_78, nb_b3_2_ar76_78, nb_b11_71_ar76_78, A4_78, nb_b6_2_ar77_78, nb_b5_2_ar77_78, nb_b3_2_ar77_78, nb_b11_71_ar77_78, dj_ar76_ar77_78⟩
        refine wp_seq_k fun K79 hK79 => ?_
        refine wp_reg All mixed hsz78 hdf78 st_tr trivial ?_
        refine Chain.op (φ := Is (.bool (decide (((k : Nat) : Int) < (((lb x.ns name : Nat) : Int) : Int))))) (st_is _) (sp_lss (Has.base rfl e51) (Has.base rfl e50)) ?_
        refine Chain.done ⟨by kernel_rfl, fun a80 g W80 hsz80 hdf80 hk hg henv hrest hpsi => ?_⟩
        obtain ⟨e52, -⟩ := henv
        replace e1 := (hrest 1 rfl).trans e1
        replace e6 := (hrest 6 rfl).trans e6
        replace e5 := (hrest 5 rfl).trans e5
        replace e3 := (hrest 3 rfl).trans e3
        replace e10 := (hrest 10 rfl).trans e10
        replace e11 := (hrest 11 rfl).trans e11
        replace e50 := (hrest 50 rfl).trans e50
        replace e51 := (hrest 51 rfl).trans e51
        replace A3_78 := A3_78.ext hk
        replace A4_78 := A4_78.ext hk
        replace D_cn0 := D_cn0.ext hk
        replace D_ci0 := D_ci0.ext hk
        replace D_cn2 := D_cn2.ext hk
        replace D_ci2 := D_ci2.ext hk
        have e52 : sl a80 52 = (.bool (decide (((k : Nat) : Int) < (((lb x.ns name : Nat) : Int) : Int)))) := e52
        replace own_b6_2 := own_b6_2.ext hk
        replace own_b5_2 := own_b5_2.ext hk
        replace own_b3_2 := own_b3_2.ext hk
        replace own_b11_71 := own_b11_71.ext hk
        replace kw := kw.trans (.of_ext hk)
        clear hrest hk hg hpsi
        refine tail_nil (hK79 _ _ ?_)
        refine wp_seq_k fun K81 hK81 => ?_
        refine wp_cond_split e52 (fun hc => ?_) (fun hc => ?_)
        · -- T: decide (((k : Nat) : Int) < (((lb x.ns name : Nat) : Int) : Int))
          have hlt : k < lb x.ns name := by have := of_decide_eq_true hc; omega
          have hltn : k < x.ns.length := by omega
          have hltx : k < x.xs.length := by omega
          have hwm := wts_mem hltx
          refine wp_skip (hK81 _ _ ?_)
          refine wp_seq_k fun K82 hK82 => ?_
          refine wp_block ?_
          refine wp_seq_k fun K83 hK83 => ?_
          refine wp_reg All mixed hsz80 hdf80 st_tr trivial ?_
          refine Chain.op (φ := Is (.int .i64 ((k : Nat)))) (st_is _) (sp_move (Has.base rfl e51)) ?_
          refine Chain.op (φ := Is (.int .i64 ((k : Nat)))) (st_is _) (sp_assign (Has.loc rfl)) ?_
          refine Chain.done ⟨by kernel_rfl, fun a84 g W84 hsz84 hdf84 hk hg henv hrest hpsi => ?_⟩
          obtain ⟨e12, -, -⟩ := henv
          replace e1 := (hrest 1 rfl).trans e1
          replace e6 := (hrest 6 rfl).trans e6
          replace e5 := (hrest 5 rfl).trans e5
          replace e3 := (hrest 3 rfl).trans e3
          replace e10 := (hrest 10 rfl).trans e10
          replace e11 := (hrest 11 rfl).trans e11
          replace e50 := (hrest 50 rfl).trans e50
          replace e51 := (hrest 51 rfl).trans e51
          replace A3_78 := A3_78.ext hk
          replace A4_78 := A4_78.ext hk
          replace D_cn0 := D_cn0.ext hk
          replace D_ci0 := D_ci0.ext hk
          replace D_cn2 := D_cn2.ext hk
          replace D_ci2 := D_ci2.ext hk
          have e12 : sl a84 12 = (.int .i64 ((k : Nat))) := e12
          replace own_b6_2 := own_b6_2.ext hk
          replace own_b5_2 := own_b5_2.ext hk
          replace own_b3_2 := own_b3_2.ext hk
          replace own_b11_71 := own_b11_71.ext hk
          replace kw := kw.trans (.of_ext hk)
          clear hrest hk hg hpsi
          refine tail_nil (hK83 _ _ ?_)
          refine wp_seq_k fun K85 hK85 => ?_
          refine wp_reg (fun k => k ∉ blks hd3_78) (Ψ := fun W => Arr W w.heap.size 9 1 (SF w (blks hd4_78 ++ (blks hd3_78 ++ (b11_71 :: (b6_2 :: (b5_2 :: (b3_2 :: []))))))) (List.map D.str (x.ns.take k)) va3_78 hd3_78) mixed hsz84 hdf84 (fun W W' k h => h.ext k) A3_78 ?_
          refine Chain.op (φ := Is (.pointer (some ⟨b11_71, 3, none⟩))) (st_is _) (sp_fieldO (Has.base rfl e11) Try.underlying25 rfl sz22 rfl) ?_
          refine Chain.op (φ := Is va3_78) (st_is _) (sp_loadO (v := va3_78) (Has.loc rfl) own_b11_71 nb_b11_71_ar76_78 agg22 sz22 (Nat.le_of_ble_eq_true rfl) (fun h => by first | rfl | cases h) rfl) ?_
          refine Chain.op (φ := Is (.pointer (some ⟨b3_2, 3, none⟩))) (st_is _) (sp_fieldO (Has.base rfl e3) Try.underlying25 rfl sz22 rfl) ?_
          refine Chain.op (φ := Is (.slice cn0a (x.ns.length) cn0c)) (st_is _) (sp_loadO (v := (.slice cn0a (x.ns.length) cn0c)) (Has.loc rfl) own_b3_2 nb_b3_2_ar76_78 agg22 sz22 (Nat.le_of_ble_eq_true rfl) (fun h => by first | rfl | cases h) rfl) ?_
          refine Chain.op (φ := Is (.int .i64 ((k : Nat)))) (st_is _) (sp_move (Has.base rfl e12)) ?_
          refine Chain.op (φ := IsR (SA w S (blks hd4_78 ++ (blks hd3_78 ++ (b11_71 :: (b6_2 :: (b5_2 :: (b3_2 :: []))))))) (D.str (x.ns[k]'hltn))) (st_r (sub_nb (fun b hb => List.mem_append_right _ (List.mem_append_left _ hb)))) (sp_indexS (i := k) ((Has.loc rfl).dat D_cn0 (sub_nb (fun b hb => List.mem_append_right _ (List.mem_append_left _ hb)))) (Has.loc rfl) Try.underlying22 sz9 rfl hltn) ?_
          refine Chain.op (φ := Is (.string (x.ns[k]'hltn))) (st_is _) (sp_loadStr (Has.loc rfl) agg9 sz9) ?_
          refine Chain.op (φ := IsD (SF w (blks hd4_78 ++ (blks hd3_78 ++ (b11_71 :: (b6_2 :: (b5_2 :: (b3_2 :: []))))))) (strsD ([x.ns[k]'hltn]))) (st_d (sub_nbF (fun b hb => List.mem_append_right _ (List.mem_append_left _ hb)))) (sp_bsl (ds := [D.str (x.ns[k]'hltn)]) Try.underlying22 sz9 z9 (Nat.le_of_ble_eq_true rfl) (Nat.le_of_ble_eq_true rfl) ⟨rfl, ((Has.loc rfl).str (rd_strAt D_cn0 k hltn)), trivial⟩ rfl (by simp [width]) (fr_sf kw (in_app A4_78.lt (in_app A3_78.lt (in_cons own_b11_71.lt (in_cons own_b6_2.lt (in_cons own_b5_2.lt (in_cons own_b3_2.lt in_nil)))))))) ?_
          refine Chain.appB (ds := List.map D.str (x.ns.take k)) (es := [D.str (x.ns[k]'hltn)]) (X := SF w (blks hd4_78 ++ (blks hd3_78 ++ (b11_71 :: (b6_2 :: (b5_2 :: (b3_2 :: []))))))) Try.underlying22 inf9 (Nat.le_of_ble_eq_true rfl) (Has.loc rfl) (Has.loc rfl) (sub_nbF (fun b hb => List.mem_append_right _ (List.mem_append_left _ hb))) (by simp [maxLen]; omega) (by simp; omega) kw.size ?_
          refine Chain.op (φ := Is (.pointer (some ⟨b11_71, 3, none⟩))) (st_is _) (sp_fieldO (Has.base rfl e11) Try.underlying25 rfl sz22 rfl) ?_
          refine Chain.done ⟨by kernel_rfl, fun a86 g W86 hsz86 hdf86 hk hg henv hrest hpsi => ?_⟩
          obtain ⟨e63, e62, -, -, -, -, -, -, -, -, -⟩ := henv
          replace e1 := (hrest 1 rfl).trans e1
          replace e6 := (hrest 6 rfl).trans e6
          replace e5 := (hrest 5 rfl).trans e5
          replace e3 := (hrest 3 rfl).trans e3
          replace e10 := (hrest 10 rfl).trans e10
          replace e11 := (hrest 11 rfl).trans e11
          replace e50 := (hrest 50 rfl).trans e50
          replace e51 := (hrest 51 rfl).trans e51
          replace e12 := (hrest 12 rfl).trans e12
          obtain ⟨v62_86, ev⟩ : ∃ v, sl a86 62 = v := ⟨_, rfl⟩
          rw [ev] at e62
          obtain ⟨hd62_86, A_62_86, hf62_86⟩ := e62
          have e62 := ev; clear ev
          obtain ⟨v62_86a, v62_86n, v62_86c, ev⟩ := arr_sl A_62_86; subst ev
          replace A_62_86 := arrF_new (M' := (blks hd4_78 ++ (blks hd62_86 ++ (b11_71 :: (b6_2 :: (b5_2 :: (b3_2 :: []))))))) A_62_86 (rep_app rep_refl (rep_app (rep_q fun _ h => h) (rep_cons (rep_cons (rep_cons (rep_cons rep_nil))))))
          replace A_62_86 : Arr W86 w.heap.size 9 1 (SF w (blks hd4_78 ++ (blks hd62_86 ++ (b11_71 :: (b6_2 :: (b5_2 :: (b3_2 :: []))))))) (List.map D.str ((x.ns.take k) ++ [x.ns[k]'hltn])) (.slice v62_86a v62_86n v62_86c) hd62_86 := by first | exact A_62_86 | (rw [List.map_append]; exact A_62_86)
          have nb_b6_2_86 : b6_2 ∉ blks hd62_86 := nb_new nb_b6_2_ar76_78 own_b6_2.lt hf62_86
          have nb_b5_2_86 : b5_2 ∉ blks hd62_86 := nb_new nb_b5_2_ar76_78 own_b5_2.lt hf62_86
          have nb_b3_2_86 : b3_2 ∉ blks hd62_86 := nb_new nb_b3_2_ar76_78 own_b3_2.lt hf62_86
          have nb_b11_71_86 : b11_71 ∉ blks hd62_86 := nb_new nb_b11_71_ar76_78 own_b11_71.lt hf62_86
          have dj_ar77_86 : ∀ b ∈ blks hd4_78, b ∉ blks hd62_86 := dj_new (dj_symm dj_ar76_ar77_78) A4_78.lt hf62_86
          replace A4_78 := arrF_app (M' := (blks hd4_78 ++ (blks hd62_86 ++ (b11_71 :: (b6_2 :: (b5_2 :: (b3_2 :: []))))))) A4_78 hk (fun b hb => List.mem_append_right _ (List.mem_append_left _ hb)) (rep_app rep_refl (rep_app hf62_86 (rep_cons (rep_cons (rep_cons (rep_cons rep_nil)))))) (dj_symm dj_ar76_ar77_78)
          replace D_cn0 := sa_app (M' := (blks hd4_78 ++ (blks hd62_86 ++ (b11_71 :: (b6_2 :: (b5_2 :: (b3_2 :: []))))))) D_cn0 hk (fun b hb => List.mem_append_right _ (List.mem_append_left _ hb)) (rep_app rep_refl (rep_app hf62_86 (rep_cons (rep_cons (rep_cons (rep_cons rep_nil))))))
          replace D_ci0 := sa_app (M' := (blks hd4_78 ++ (blks hd62_86 ++ (b11_71 :: (b6_2 :: (b5_2 :: (b3_2 :: []))))))) D_ci0 hk (fun b hb => List.mem_append_right _ (List.mem_append_left _ hb)) (rep_app rep_refl (rep_app hf62_86 (rep_cons (rep_cons (rep_cons (rep_cons rep_nil))))))
          replace D_cn2 := sa_app (M' := (blks hd4_78 ++ (blks hd62_86 ++ (b11_71 :: (b6_2 :: (b5_2 :: (b3_2 :: []))))))) D_cn2 hk (fun b hb => List.mem_append_right _ (List.mem_append_left _ hb)) (rep_app rep_refl (rep_app hf62_86 (rep_cons (rep_cons (rep_cons (rep_cons rep_nil))))))
          replace D_ci2 := sa_app (M' := (blks hd4_78 ++ (blks hd62_86 ++ (b11_71 :: (b6_2 :: (b5_2 :: (b3_2 :: []))))))) D_ci2 hk (fun b hb => List.mem_append_right _ (List.mem_append_left _ hb)) (rep_app rep_refl (rep_app hf62_86 (rep_cons (rep_cons (rep_cons (rep_cons rep_nil))))))
          replace own_b6_2 := own_app own_b6_2 hk nb_b6_2_ar76_78
          replace own_b5_2 := own_app own_b5_2 hk nb_b5_2_ar76_78
          replace own_b3_2 := own_app own_b3_2 hk nb_b3_2_ar76_78
          replace own_b11_71 := own_app own_b11_71 hk nb_b11_71_ar76_78
          replace kw := keeps_app kw hk A3_78.ge
          have e63 : sl a86 63 = (.pointer (some ⟨b11_71, 3, none⟩)) := e63
          clear hrest hk hg hpsi hf62_86 A3_78
          refine tail_store (b := b11_71) (o := 3) (v := (.slice v62_86a v62_86n v62_86c)) e63 e62 sz22 rfl own_b11_71 (Nat.le_of_ble_eq_true rfl) (all_cons rfl all_nil) (fun W87 hs own_b11_71 => ?_)
          have own_b11_71 : Own W87 b11_71 [(.int .u8 (x.k)), (.int .i64 (x.n)), (.string (x.t)), (.slice v62_86a v62_86n v62_86c), va4_78] 25 := own_b11_71
          replace own_b6_2 := own_store own_b6_2 hs ne_b6_2_b11_71
          replace own_b5_2 := own_store own_b5_2 hs ne_b5_2_b11_71
          replace own_b3_2 := own_store own_b3_2 hs ne_b3_2_b11_71
          replace D_cn0 := sa_store D_cn0 hs (by simp)
          replace D_ci0 := sa_store D_ci0 hs (by simp)
          replace D_cn2 := sa_store D_cn2 hs (by simp)
          replace D_ci2 := sa_store D_ci2 hs (by simp)
          replace A_62_86 := arrF_store A_62_86 hs (by simp) nb_b11_71_86
          replace A4_78 := arrF_store A4_78 hs (by simp) nb_b11_71_ar77_78
          replace kw := keeps_store kw hs lo_b11_71
          clear hs
          refine tail_nil (hK85 _ _ ?_)
          refine wp_reg (fun k => k ∉ blks hd4_78) (Ψ := fun W => Arr W w.heap.size 25 5 (SF w (blks hd4_78 ++ (blks hd62_86 ++ (b11_71 :: (b6_2 :: (b5_2 :: (b3_2 :: []))))))) (List.map V.d (x.xs.take k)) va4_78 hd4_78) mixed hsz86 hdf86 (fun W W' k h => h.ext k) A4_78 ?_
          refine Chain.op (φ := Is (.pointer (some ⟨b11_71, 4, none⟩))) (st_is _) (sp_fieldO (Has.base rfl e11) Try.underlying25 rfl sz23 rfl) ?_
          refine Chain.op (φ := Is va4_78) (st_is _) (sp_loadO (v := va4_78) (Has.loc rfl) own_b11_71 nb_b11_71_ar77_78 agg23 sz23 (Nat.le_of_ble_eq_true rfl) (fun h => by first | rfl | cases h) rfl) ?_
          refine Chain.op (φ := Is (.pointer (some ⟨b3_2, 4, none⟩))) (st_is _) (sp_fieldO (Has.base rfl e3) Try.underlying25 rfl sz23 rfl) ?_
          refine Chain.op (φ := Is (.slice ci0a (x.xs.length) ci0c)) (st_is _) (sp_loadO (v := (.slice ci0a (x.xs.length) ci0c)) (Has.loc rfl) own_b3_2 nb_b3_2_ar77_78 agg23 sz23 (Nat.le_of_ble_eq_true rfl) (fun h => by first | rfl | cases h) rfl) ?_
          refine Chain.op (φ := Is (.int .i64 ((k : Nat)))) (st_is _) (sp_move (Has.base rfl e12)) ?_
          refine Chain.op (φ := IsR (SA w S (blks hd4_78 ++ (blks hd62_86 ++ (b11_71 :: (b6_2 :: (b5_2 :: (b3_2 :: []))))))) (V.d (x.xs[k]'hltx))) (st_r (sub_nb (fun b hb => List.mem_append_left _ hb))) (sp_indexV (i := k) ((Has.loc rfl).dat D_ci0 (sub_nb (fun b hb => List.mem_append_left _ hb))) (Has.loc rfl) Try.underlying23 sz25 rfl hltx) ?_
          refine Chain.op (φ := IsD (SA w S (blks hd4_78 ++ (blks hd62_86 ++ (b11_71 :: (b6_2 :: (b5_2 :: (b3_2 :: []))))))) (V.d (x.xs[k]'hltx))) (st_d (sub_nb (fun b hb => List.mem_append_left _ hb))) (sp_loadV (Has.loc rfl) agg25 sz25) ?_
          refine Chain.op (φ := IsD (Fr W87) (V.d (x.xs[k]'hltx))) (st_d (sub_frnb (fun b hb => A4_78.lt b hb))) (sp_call1 (φ1 := IsD (SA w S (blks hd4_78 ++ (blks hd62_86 ++ (b11_71 :: (b6_2 :: (b5_2 :: (b3_2 :: []))))))) (V.d (x.xs[k]'hltx))) ent14 (Has.loc rfl) (fun g u1 W hk hgk h1 => (Copy_ok (x.xs[k]'hltx) (by first | omega | exact Nat.le_of_ble_eq_true (by kernel_rfl)) W _ _ (fun b o h => sa_cln hS b o h.1) h1).mono (ret_fr hk hgk))) ?_
          refine Chain.op (φ := IsD (SF w (blks hd4_78 ++ (blks hd62_86 ++ (b11_71 :: (b6_2 :: (b5_2 :: (b3_2 :: []))))))) (valsD ([x.xs[k]'hltx]))) (st_d (sub_nbF (fun b hb => List.mem_append_left _ hb))) (sp_bsl (ds := [V.d (x.xs[k]'hltx)]) Try.underlying23 sz25 z25 (Nat.le_of_ble_eq_true rfl) (Nat.le_of_ble_eq_true rfl) ⟨rfl, ((Has.loc rfl).sup (fr_sf kw (in_app A4_78.lt (in_app A_62_86.lt (in_cons own_b11_71.lt (in_cons own_b6_2.lt (in_cons own_b5_2.lt (in_cons own_b3_2.lt in_nil)))))))), trivial⟩ rfl (by intro e he; simp at he; rcases he with rfl <;> exact width_V _) (fr_sf kw (in_app A4_78.lt (in_app A_62_86.lt (in_cons own_b11_71.lt (in_cons own_b6_2.lt (in_cons own_b5_2.lt (in_cons own_b3_2.lt in_nil)))))))) ?_
          refine Chain.appB (ds := List.map V.d (x.xs.take k)) (es := [V.d (x.xs[k]'hltx)]) (X := SF w (blks hd4_78 ++ (blks hd62_86 ++ (b11_71 :: (b6_2 :: (b5_2 :: (b3_2 :: []))))))) Try.underlying23 inf25 (Nat.le_of_ble_eq_true rfl) (Has.loc rfl) (Has.loc rfl) (sub_nbF (fun b hb => List.mem_append_left _ hb)) (by simp [maxLen]; omega) (by simp; omega) kw.size ?_
          refine Chain.op (φ := Is (.pointer (some ⟨b11_71, 4, none⟩))) (st_is _) (sp_fieldO (Has.base rfl e11) Try.underlying25 rfl sz23 rfl) ?_
          refine Chain.done ⟨by kernel_rfl, fun a88 g W88 hsz88 hdf88 hk hg henv hrest hpsi => ?_⟩
          obtain ⟨e74, e73, -, -, -, -, -, -, -, -, -, -⟩ := henv
          replace e1 := (hrest 1 rfl).trans e1
          replace e6 := (hrest 6 rfl).trans e6
          replace e5 := (hrest 5 rfl).trans e5
          replace e3 := (hrest 3 rfl).trans e3
          replace e10 := (hrest 10 rfl).trans e10
          replace e11 := (hrest 11 rfl).trans e11
          replace e50 := (hrest 50 rfl).trans e50
          replace e51 := (hrest 51 rfl).trans e51
          obtain ⟨v73_88, ev⟩ : ∃ v, sl a88 73 = v := ⟨_, rfl⟩
          rw [ev] at e73
          obtain ⟨hd73_88, A_73_88, hf73_88⟩ := e73
          have e73 := ev; clear ev
          obtain ⟨v73_88a, v73_88n, v73_88c, ev⟩ := arr_sl A_73_88; subst ev
          replace A_73_88 := arrF_new (M' := (blks hd73_88 ++ (blks hd62_86 ++ (b11_71 :: (b6_2 :: (b5_2 :: (b3_2 :: []))))))) A_73_88 (rep_app (rep_q fun _ h => h) (rep_app rep_refl (rep_cons (rep_cons (rep_cons (rep_cons rep_nil))))))
          replace A_73_88 : Arr W88 w.heap.size 25 5 (SF w (blks hd73_88 ++ (blks hd62_86 ++ (b11_71 :: (b6_2 :: (b5_2 :: (b3_2 :: []))))))) (List.map V.d ((x.xs.take k) ++ [x.xs[k]'hltx])) (.slice v73_88a v73_88n v73_88c) hd73_88 := by first | exact A_73_88 | (rw [List.map_append]; exact A_73_88)
          have nb_b6_2_88 : b6_2 ∉ blks hd73_88 := nb_new nb_b6_2_ar77_78 own_b6_2.lt hf73_88
          have nb_b5_2_88 : b5_2 ∉ blks hd73_88 := nb_new nb_b5_2_ar77_78 own_b5_2.lt hf73_88
          have nb_b3_2_88 : b3_2 ∉ blks hd73_88 := nb_new nb_b3_2_ar77_78 own_b3_2.lt hf73_88
          have nb_b11_71_88 : b11_71 ∉ blks hd73_88 := nb_new nb_b11_71_ar77_78 own_b11_71.lt hf73_88
          have dj_ar76_88 : ∀ b ∈ blks hd62_86, b ∉ blks hd73_88 := dj_new (dj_symm dj_ar77_86) A_62_86.lt hf73_88
          replace A_62_86 := arrF_app (M' := (blks hd73_88 ++ (blks hd62_86 ++ (b11_71 :: (b6_2 :: (b5_2 :: (b3_2 :: []))))))) A_62_86 hk (fun b hb => List.mem_append_left _ hb) (rep_app hf73_88 (rep_app rep_refl (rep_cons (rep_cons (rep_cons (rep_cons rep_nil)))))) (dj_symm dj_ar77_86)
          replace D_cn0 := sa_app (M' := (blks hd73_88 ++ (blks hd62_86 ++ (b11_71 :: (b6_2 :: (b5_2 :: (b3_2 :: []))))))) D_cn0 hk (fun b hb => List.mem_append_left _ hb) (rep_app hf73_88 (rep_app rep_refl (rep_cons (rep_cons (rep_cons (rep_cons rep_nil))))))
          replace D_ci0 := sa_app (M' := (blks hd73_88 ++ (blks hd62_86 ++ (b11_71 :: (b6_2 :: (b5_2 :: (b3_2 :: []))))))) D_ci0 hk (fun b hb => List.mem_append_left _ hb) (rep_app hf73_88 (rep_app rep_refl (rep_cons (rep_cons (rep_cons (rep_cons rep_nil))))))
          replace D_cn2 := sa_app (M' := (blks hd73_88 ++ (blks hd62_86 ++ (b11_71 :: (b6_2 :: (b5_2 :: (b3_2 :: []))))))) D_cn2 hk (fun b hb => List.mem_append_left _ hb) (rep_app hf73_88 (rep_app rep_refl (rep_cons (rep_cons (rep_cons (rep_cons rep_nil))))))
          replace D_ci2 := sa_app (M' := (blks hd73_88 ++ (blks hd62_86 ++ (b11_71 :: (b6_2 :: (b5_2 :: (b3_2 :: []))))))) D_ci2 hk (fun b hb => List.mem_append_left _ hb) (rep_app hf73_88 (rep_app rep_refl (rep_cons (rep_cons (rep_cons (rep_cons rep_nil))))))
          replace own_b6_2 := own_app own_b6_2 hk nb_b6_2_ar77_78
          replace own_b5_2 := own_app own_b5_2 hk nb_b5_2_ar77_78
          replace own_b3_2 := own_app own_b3_2 hk nb_b3_2_ar77_78
          replace own_b11_71 := own_app own_b11_71 hk nb_b11_71_ar77_78
          replace kw := keeps_app kw hk A4_78.ge
          have e74 : sl a88 74 = (.pointer (some ⟨b11_71, 4, none⟩)) := e74
          clear hrest hk hg hpsi hf73_88 A4_78
          refine tail_store (b := b11_71) (o := 4) (v := (.slice v73_88a v73_88n v73_88c)) e74 e73 sz23 rfl own_b11_71 (Nat.le_of_ble_eq_true rfl) (all_cons rfl all_nil) (fun W89 hs own_b11_71 => ?_)
          have own_b11_71 : Own W89 b11_71 [(.int .u8 (x.k)), (.int .i64 (x.n)), (.string (x.t)), (.slice v62_86a v62_86n v62_86c), (.slice v73_88a v73_88n v73_88c)] 25 := own_b11_71
          replace own_b6_2 := own_store own_b6_2 hs ne_b6_2_b11_71
          replace own_b5_2 := own_store own_b5_2 hs ne_b5_2_b11_71
          replace own_b3_2 := own_store own_b3_2 hs ne_b3_2_b11_71
          replace D_cn0 := sa_store D_cn0 hs (by simp)
          replace D_ci0 := sa_store D_ci0 hs (by simp)
          replace D_cn2 := sa_store D_cn2 hs (by simp)
          replace D_ci2 := sa_store D_ci2 hs (by simp)
          replace A_62_86 := arrF_store A_62_86 hs (by simp) nb_b11_71_86
          replace A_73_88 := arrF_store A_73_88 hs (by simp) nb_b11_71_88
          replace kw := keeps_store kw hs lo_b11_71
          clear hs
          refine tail_nil (hK82 _ _ ?_)
          refine wp_reg All mixed hsz88 hdf88 st_tr trivial ?_
          refine Chain.op (φ := Is (.int .i64 (((k : Nat) : Int) + (1 : Int)))) (st_is _) (sp_add (Has.base rfl e51) Has.cst (i64_in (by omega))) ?_
          refine Chain.op (φ := Is (.int .i64 (((k : Nat) : Int) + (1 : Int)))) (st_is _) (sp_move (Has.loc rfl)) ?_
          refine Chain.done ⟨by kernel_rfl, fun a90 g W90 hsz90 hdf90 hk hg henv hrest hpsi => ?_⟩
          obtain ⟨e51, -, -⟩ := henv
          replace e1 := (hrest 1 rfl).trans e1
          replace e6 := (hrest 6 rfl).trans e6
          replace e5 := (hrest 5 rfl).trans e5
          replace e3 := (hrest 3 rfl).trans e3
          replace e10 := (hrest 10 rfl).trans e10
          replace e11 := (hrest 11 rfl).trans e11
          replace e50 := (hrest 50 rfl).trans e50
          replace A_62_86 := A_62_86.ext hk
          replace A_73_88 := A_73_88.ext hk
          replace D_cn0 := D_cn0.ext hk
          replace D_ci0 := D_ci0.ext hk
          replace D_cn2 := D_cn2.ext hk
          replace D_ci2 := D_ci2.ext hk
          have e51 : sl a90 51 = (.int .i64 (((k : Nat) : Int) + (1 : Int))) := e51
          replace own_b6_2 := own_b6_2.ext hk
          replace own_b5_2 := own_b5_2.ext hk
          replace own_b3_2 := own_b3_2.ext hk
          replace own_b11_71 := own_b11_71.ext hk
          replace kw := kw.trans (.of_ext hk)
          clear hrest hk hg hpsi
          rw [show (x.ns.take k) ++ [x.ns[k]'hltn] = x.ns.take (k + 1) by rw [List.take_succ_eq_append_getElem hltn]] at A_62_86
          rw [show (x.xs.take k) ++ [x.xs[k]'hltx] = x.xs.take (k + 1) by rw [List.take_succ_eq_append_getElem hltx]] at A_73_88
          exact tail_nil ⟨hlt, (.slice v62_86a v62_86n v62_86c), hd62_86, (.slice v73_88a v73_88n v73_88c), hd73_88, hsz90, hdf90, kw, e1, e3, e5, e6, e10, e11, e50, (e51.trans (congrArg (Value.int .i64) (by simp))), own_b6_2, own_b5_2, own_b3_2, own_b11_71, D_cn0, D_ci0, D_cn2, D_ci2, A_62_86, nb_b6_2_86, nb_b5_2_86, nb_b3_2_86, nb_b11_71_86, A_73_88, nb_b6_2_88, nb_b5_2_88, nb_b3_2_88, nb_b11_71_88, dj_ar76_88⟩
        · -- E: decide (((k : Nat) : Int) < (((lb x.ns name : Nat) : Int) : Int))
          have hge0 := of_decide_eq_false hc
          have hge : k = lb x.ns name := by omega
          rw [show x.ns.take k = x.ns.take (lb x.ns name) by rw [hge]] at A3_78
          rw [show x.xs.take k = x.xs.take (lb x.ns name) by rw [hge]] at A4_78
          refine wp_exit (hK73 _ _ ?_)
          refine wp_seq_k fun K91 hK91 => ?_
          refine wp_reg (fun k => k ∉ blks hd3_78) (Ψ := fun W => Arr W w.heap.size 9 1 (SF w (blks hd4_78 ++ (blks hd3_78 ++ (b11_71 :: (b6_2 :: (b5_2 :: (b3_2 :: []))))))) (List.map D.str (x.ns.take (lb x.ns name))) va3_78 hd3_78) mixed hsz80 hdf80 (fun W W' k h => h.ext k) A3_78 ?_
          refine Chain.op (φ := Is (.pointer (some ⟨b11_71, 3, none⟩))) (st_is _) (sp_fieldO (Has.base rfl e11) Try.underlying25 rfl sz22 rfl) ?_
          refine Chain.op (φ := Is va3_78) (st_is _) (sp_loadO (v := va3_78) (Has.loc rfl) own_b11_71 nb_b11_71_ar76_78 agg22 sz22 (Nat.le_of_ble_eq_true rfl) (fun h => by first | rfl | cases h) rfl) ?_
          refine Chain.op (φ := Is (.string (name))) (st_is _) (sp_move (Has.base rfl e1)) ?_
          refine Chain.op (φ := IsD (SF w (blks hd4_78 ++ (blks hd3_78 ++ (b11_71 :: (b6_2 :: (b5_2 :: (b3_2 :: []))))))) (strsD ([name]))) (st_d (sub_nbF (fun b hb => List.mem_append_right _ (List.mem_append_left _ hb)))) (sp_bsl (ds := [D.str (name)]) Try.underlying22 sz9 z9 (Nat.le_of_ble_eq_true rfl) (Nat.le_of_ble_eq_true rfl) ⟨rfl, ((Has.loc rfl).str hname), trivial⟩ rfl (by simp [width]) (fr_sf kw (in_app A4_78.lt (in_app A3_78.lt (in_cons own_b11_71.lt (in_cons own_b6_2.lt (in_cons own_b5_2.lt (in_cons own_b3_2.lt in_nil)))))))) ?_
          refine Chain.appB (ds := List.map D.str (x.ns.take (lb x.ns name))) (es := [D.str (name)]) (X := SF w (blks hd4_78 ++ (blks hd3_78 ++ (b11_71 :: (b6_2 :: (b5_2 :: (b3_2 :: []))))))) Try.underlying22 inf9 (Nat.le_of_ble_eq_true rfl) (Has.loc rfl) (Has.loc rfl) (sub_nbF (fun b hb => List.mem_append_right _ (List.mem_append_left _ hb))) (by simp [maxLen]; omega) (by simp; omega) kw.size ?_
          refine Chain.op (φ := Is (.pointer (some ⟨b11_71, 3, none⟩))) (st_is _) (sp_fieldO (Has.base rfl e11) Try.underlying25 rfl sz22 rfl) ?_
          refine Chain.done ⟨by kernel_rfl, fun a92 g W92 hsz92 hdf92 hk hg henv hrest hpsi => ?_⟩
          obtain ⟨e81, e80, -, -, -, -, -⟩ := henv
          replace e6 := (hrest 6 rfl).trans e6
          replace e5 := (hrest 5 rfl).trans e5
          replace e3 := (hrest 3 rfl).trans e3
          replace e10 := (hrest 10 rfl).trans e10
          replace e11 := (hrest 11 rfl).trans e11
          obtain ⟨v80_92, ev⟩ : ∃ v, sl a92 80 = v := ⟨_, rfl⟩
          rw [ev] at e80
          obtain ⟨hd80_92, A_80_92, hf80_92⟩ := e80
          have e80 := ev; clear ev
          obtain ⟨v80_92a, v80_92n, v80_92c, ev⟩ := arr_sl A_80_92; subst ev
          replace A_80_92 := arrF_new (M' := (blks hd4_78 ++ (blks hd80_92 ++ (b11_71 :: (b6_2 :: (b5_2 :: (b3_2 :: []))))))) A_80_92 (rep_app rep_refl (rep_app (rep_q fun _ h => h) (rep_cons (rep_cons (rep_cons (rep_cons rep_nil))))))
          replace A_80_92 : Arr W92 w.heap.size 9 1 (SF w (blks hd4_78 ++ (blks hd80_92 ++ (b11_71 :: (b6_2 :: (b5_2 :: (b3_2 :: []))))))) (List.map D.str ((x.ns.take (lb x.ns name)) ++ [name])) (.slice v80_92a v80_92n v80_92c) hd80_92 := by first | exact A_80_92 | (rw [List.map_append]; exact A_80_92)
          have nb_b6_2_92 : b6_2 ∉ blks hd80_92 := nb_new nb_b6_2_ar76_78 own_b6_2.lt hf80_92
          have nb_b5_2_92 : b5_2 ∉ blks hd80_92 := nb_new nb_b5_2_ar76_78 own_b5_2.lt hf80_92
          have nb_b3_2_92 : b3_2 ∉ blks hd80_92 := nb_new nb_b3_2_ar76_78 own_b3_2.lt hf80_92
          have nb_b11_71_92 : b11_71 ∉ blks hd80_92 := nb_new nb_b11_71_ar76_78 own_b11_71.lt hf80_92
          have dj_ar77_92 : ∀ b ∈ blks hd4_78, b ∉ blks hd80_92 := dj_new (dj_symm dj_ar76_ar77_78) A4_78.lt hf80_92
          replace A4_78 := arrF_app (M' := (blks hd4_78 ++ (blks hd80_92 ++ (b11_71 :: (b6_2 :: (b5_2 :: (b3_2 :: []))))))) A4_78 hk (fun b hb => List.mem_append_right _ (List.mem_append_left _ hb)) (rep_app rep_refl (rep_app hf80_92 (rep_cons (rep_cons (rep_cons (rep_cons rep_nil)))))) (dj_symm dj_ar76_ar77_78)
          replace D_cn0 := sa_app (M' := (blks hd4_78 ++ (blks hd80_92 ++ (b11_71 :: (b6_2 :: (b5_2 :: (b3_2 :: []))))))) D_cn0 hk (fun b hb => List.mem_append_right _ (List.mem_append_left _ hb)) (rep_app rep_refl (rep_app hf80_92 (rep_cons (rep_cons (rep_cons (rep_cons rep_nil))))))
          replace D_ci0 := sa_app (M' := (blks hd4_78 ++ (blks hd80_92 ++ (b11_71 :: (b6_2 :: (b5_2 :: (b3_2 :: []))))))) D_ci0 hk (fun b hb => List.mem_append_right _ (List.mem_append_left _ hb)) (rep_app rep_refl (rep_app hf80_92 (rep_cons (rep_cons (rep_cons (rep_cons rep_nil))))))
          replace D_cn2 := sa_app (M' := (blks hd4_78 ++ (blks hd80_92 ++ (b11_71 :: (b6_2 :: (b5_2 :: (b3_2 :: []))))))) D_cn2 hk (fun b hb => List.mem_append_right _ (List.mem_append_left _ hb)) (rep_app rep_refl (rep_app hf80_92 (rep_cons (rep_cons (rep_cons (rep_cons rep_nil))))))
          replace D_ci2 := sa_app (M' := (blks hd4_78 ++ (blks hd80_92 ++ (b11_71 :: (b6_2 :: (b5_2 :: (b3_2 :: []))))))) D_ci2 hk (fun b hb => List.mem_append_right _ (List.mem_append_left _ hb)) (rep_app rep_refl (rep_app hf80_92 (rep_cons (rep_cons (rep_cons (rep_cons rep_nil))))))
          replace own_b6_2 := own_app own_b6_2 hk nb_b6_2_ar76_78
          replace own_b5_2 := own_app own_b5_2 hk nb_b5_2_ar76_78
          replace own_b3_2 := own_app own_b3_2 hk nb_b3_2_ar76_78
          replace own_b11_71 := own_app own_b11_71 hk nb_b11_71_ar76_78
          replace kw := keeps_app kw hk A3_78.ge
          have e81 : sl a92 81 = (.pointer (some ⟨b11_71, 3, none⟩)) := e81
          clear hrest hk hg hpsi hf80_92 A3_78
          refine tail_store (b := b11_71) (o := 3) (v := (.slice v80_92a v80_92n v80_92c)) e81 e80 sz22 rfl own_b11_71 (Nat.le_of_ble_eq_true rfl) (all_cons rfl all_nil) (fun W93 hs own_b11_71 => ?_)
          have own_b11_71 : Own W93 b11_71 [(.int .u8 (x.k)), (.int .i64 (x.n)), (.string (x.t)), (.slice v80_92a v80_92n v80_92c), va4_78] 25 := own_b11_71
          replace own_b6_2 := own_store own_b6_2 hs ne_b6_2_b11_71
          replace own_b5_2 := own_store own_b5_2 hs ne_b5_2_b11_71
          replace own_b3_2 := own_store own_b3_2 hs ne_b3_2_b11_71
          replace D_cn0 := sa_store D_cn0 hs (by simp)
          replace D_ci0 := sa_store D_ci0 hs (by simp)
          replace D_cn2 := sa_store D_cn2 hs (by simp)
          replace D_ci2 := sa_store D_ci2 hs (by simp)
          replace A_80_92 := arrF_store A_80_92 hs (by simp) nb_b11_71_92
          replace A4_78 := arrF_store A4_78 hs (by simp) nb_b11_71_ar77_78
          replace kw := keeps_store kw hs lo_b11_71
          clear hs
          refine tail_nil (hK91 _ _ ?_)
          refine wp_seq_k fun K94 hK94 => ?_
          refine wp_reg (fun k => k ∉ blks hd4_78) (Ψ := fun W => Arr W w.heap.size 25 5 (SF w (blks hd4_78 ++ (blks hd80_92 ++ (b11_71 :: (b6_2 :: (b5_2 :: (b3_2 :: []))))))) (List.map V.d (x.xs.take (lb x.ns name))) va4_78 hd4_78) mixed hsz92 hdf92 (fun W W' k h => h.ext k) A4_78 ?_
          refine Chain.op (φ := Is (.pointer (some ⟨b11_71, 4, none⟩))) (st_is _) (sp_fieldO (Has.base rfl e11) Try.underlying25 rfl sz23 rfl) ?_
          refine Chain.op (φ := Is va4_78) (st_is _) (sp_loadO (v := va4_78) (Has.loc rfl) own_b11_71 nb_b11_71_ar77_78 agg23 sz23 (Nat.le_of_ble_eq_true rfl) (fun h => by first | rfl | cases h) rfl) ?_
          refine Chain.op (φ := Is (.agg #[(.int .u8 (y.k)), (.int .i64 (y.n)), (.string (y.t)), (.slice cn2a (y.ns.length) cn2c), (.slice ci2a (y.xs.length) ci2c)])) (st_is _) (sp_loadO (v := (.agg #[(.int .u8 (y.k)), (.int .i64 (y.n)), (.string (y.t)), (.slice cn2a (y.ns.length) cn2c), (.slice ci2a (y.xs.length) ci2c)])) (Has.base rfl e5) own_b5_2 nb_b5_2_ar77_78 agg25 sz25 (Nat.le_of_ble_eq_true rfl) (fun h => by first | rfl | cases h) rfl) ?_
          refine Chain.op (φ := IsD (Fr W93) (V.d (y))) (st_d (sub_frnb (fun b hb => A4_78.lt b hb))) (sp_call1 (φ1 := IsD (SA w S (blks hd4_78 ++ (blks hd80_92 ++ (b11_71 :: (b6_2 :: (b5_2 :: (b3_2 :: []))))))) (V.d (y))) ent14 ((Has.loc rfl).dat (rdV_in (x := y) ht2 D_cn2 D_ci2 : Rd W93 (SA w S (blks hd4_78 ++ (blks hd80_92 ++ (b11_71 :: (b6_2 :: (b5_2 :: (b3_2 :: []))))))) (V.d (y)) _) (sub_nb (fun b hb => List.mem_append_left _ hb))) (fun g u1 W hk hgk h1 => (Copy_ok (y) (by first | omega | exact Nat.le_of_ble_eq_true (by kernel_rfl)) W _ _ (fun b o h => sa_cln hS b o h.1) h1).mono (ret_fr hk hgk))) ?_
          refine Chain.op (φ := IsD (SF w (blks hd4_78 ++ (blks hd80_92 ++ (b11_71 :: (b6_2 :: (b5_2 :: (b3_2 :: []))))))) (valsD ([y]))) (st_d (sub_nbF (fun b hb => List.mem_append_left _ hb))) (sp_bsl (ds := [V.d (y)]) Try.underlying23 sz25 z25 (Nat.le_of_ble_eq_true rfl) (Nat.le_of_ble_eq_true rfl) ⟨rfl, ((Has.loc rfl).sup (fr_sf kw (in_app A4_78.lt (in_app A_80_92.lt (in_cons own_b11_71.lt (in_cons own_b6_2.lt (in_cons own_b5_2.lt (in_cons own_b3_2.lt in_nil)))))))), trivial⟩ rfl (by intro e he; simp at he; rcases he with rfl <;> exact width_V _) (fr_sf kw (in_app A4_78.lt (in_app A_80_92.lt (in_cons own_b11_71.lt (in_cons own_b6_2.lt (in_cons own_b5_2.lt (in_cons own_b3_2.lt in_nil)))))))) ?_
          refine Chain.appB (ds := List.map V.d (x.xs.take (lb x.ns name))) (es := [V.d (y)]) (X := SF w (blks hd4_78 ++ (blks hd80_92 ++ (b11_71 :: (b6_2 :: (b5_2 :: (b3_2 :: []))))))) Try.underlying23 inf25 (Nat.le_of_ble_eq_true rfl) (Has.loc rfl) (Has.loc rfl) (sub_nbF (fun b hb => List.mem_append_left _ hb)) (by simp [maxLen]; omega) (by simp; omega) kw.size ?_
          refine Chain.op (φ := Is (.pointer (some ⟨b11_71, 4, none⟩))) (st_is _) (sp_fieldO (Has.base rfl e11) Try.underlying25 rfl sz23 rfl) ?_
          refine Chain.done ⟨by kernel_rfl, fun a95 g W95 hsz95 hdf95 hk hg henv hrest hpsi => ?_⟩
          obtain ⟨e88, e87, -, -, -, -, -, -⟩ := henv
          replace e6 := (hrest 6 rfl).trans e6
          replace e3 := (hrest 3 rfl).trans e3
          replace e10 := (hrest 10 rfl).trans e10
          replace e11 := (hrest 11 rfl).trans e11
          obtain ⟨v87_95, ev⟩ : ∃ v, sl a95 87 = v := ⟨_, rfl⟩
          rw [ev] at e87
          obtain ⟨hd87_95, A_87_95, hf87_95⟩ := e87
          have e87 := ev; clear ev
          obtain ⟨v87_95a, v87_95n, v87_95c, ev⟩ := arr_sl A_87_95; subst ev
          replace A_87_95 := arrF_new (M' := (blks hd87_95 ++ (blks hd80_92 ++ (b11_71 :: (b6_2 :: (b5_2 :: (b3_2 :: []))))))) A_87_95 (rep_app (rep_q fun _ h => h) (rep_app rep_refl (rep_cons (rep_cons (rep_cons (rep_cons rep_nil))))))
          replace A_87_95 : Arr W95 w.heap.size 25 5 (SF w (blks hd87_95 ++ (blks hd80_92 ++ (b11_71 :: (b6_2 :: (b5_2 :: (b3_2 :: []))))))) (List.map V.d ((x.xs.take (lb x.ns name)) ++ [y])) (.slice v87_95a v87_95n v87_95c) hd87_95 := by first | exact A_87_95 | (rw [List.map_append]; exact A_87_95)
          have nb_b6_2_95 : b6_2 ∉ blks hd87_95 := nb_new nb_b6_2_ar77_78 own_b6_2.lt hf87_95
          have nb_b5_2_95 : b5_2 ∉ blks hd87_95 := nb_new nb_b5_2_ar77_78 own_b5_2.lt hf87_95
          have nb_b3_2_95 : b3_2 ∉ blks hd87_95 := nb_new nb_b3_2_ar77_78 own_b3_2.lt hf87_95
          have nb_b11_71_95 : b11_71 ∉ blks hd87_95 := nb_new nb_b11_71_ar77_78 own_b11_71.lt hf87_95
          have dj_ar76_95 : ∀ b ∈ blks hd80_92, b ∉ blks hd87_95 := dj_new (dj_symm dj_ar77_92) A_80_92.lt hf87_95
          replace A_80_92 := arrF_app (M' := (blks hd87_95 ++ (blks hd80_92 ++ (b11_71 :: (b6_2 :: (b5_2 :: (b3_2 :: []))))))) A_80_92 hk (fun b hb => List.mem_append_left _ hb) (rep_app hf87_95 (rep_app rep_refl (rep_cons (rep_cons (rep_cons (rep_cons rep_nil)))))) (dj_symm dj_ar77_92)
          replace D_cn0 := sa_app (M' := (blks hd87_95 ++ (blks hd80_92 ++ (b11_71 :: (b6_2 :: (b5_2 :: (b3_2 :: []))))))) D_cn0 hk (fun b hb => List.mem_append_left _ hb) (rep_app hf87_95 (rep_app rep_refl (rep_cons (rep_cons (rep_cons (rep_cons rep_nil))))))
          replace D_ci0 := sa_app (M' := (blks hd87_95 ++ (blks hd80_92 ++ (b11_71 :: (b6_2 :: (b5_2 :: (b3_2 :: []))))))) D_ci0 hk (fun b hb => List.mem_append_left _ hb) (rep_app hf87_95 (rep_app rep_refl (rep_cons (rep_cons (rep_cons (rep_cons rep_nil))))))
          replace D_cn2 := sa_app (M' := (blks hd87_95 ++ (blks hd80_92 ++ (b11_71 :: (b6_2 :: (b5_2 :: (b3_2 :: []))))))) D_cn2 hk (fun b hb => List.mem_append_left _ hb) (rep_app hf87_95 (rep_app rep_refl (rep_cons (rep_cons (rep_cons (rep_cons rep_nil))))))
          replace D_ci2 := sa_app (M' := (blks hd87_95 ++ (blks hd80_92 ++ (b11_71 :: (b6_2 :: (b5_2 :: (b3_2 :: []))))))) D_ci2 hk (fun b hb => List.mem_append_left _ hb) (rep_app hf87_95 (rep_app rep_refl (rep_cons (rep_cons (rep_cons (rep_cons rep_nil))))))
          replace own_b6_2 := own_app own_b6_2 hk nb_b6_2_ar77_78
          replace own_b5_2 := own_app own_b5_2 hk nb_b5_2_ar77_78
          replace own_b3_2 := own_app own_b3_2 hk nb_b3_2_ar77_78
          replace own_b11_71 := own_app own_b11_71 hk nb_b11_71_ar77_78
          replace kw := keeps_app kw hk A4_78.ge
          have e88 : sl a95 88 = (.pointer (some ⟨b11_71, 4, none⟩)) := e88
          clear hrest hk hg hpsi hf87_95 A4_78
          refine tail_store (b := b11_71) (o := 4) (v := (.slice v87_95a v87_95n v87_95c)) e88 e87 sz23 rfl own_b11_71 (Nat.le_of_ble_eq_true rfl) (all_cons rfl all_nil) (fun W96 hs own_b11_71 => ?_)
          have own_b11_71 : Own W96 b11_71 [(.int .u8 (x.k)), (.int .i64 (x.n)), (.string (x.t)), (.slice v80_92a v80_92n v80_92c), (.slice v87_95a v87_95n v87_95c)] 25 := own_b11_71
          replace own_b6_2 := own_store own_b6_2 hs ne_b6_2_b11_71
          replace own_b5_2 := own_store own_b5_2 hs ne_b5_2_b11_71
          replace own_b3_2 := own_store own_b3_2 hs ne_b3_2_b11_71
          replace D_cn0 := sa_store D_cn0 hs (by simp)
          replace D_ci0 := sa_store D_ci0 hs (by simp)
          replace D_cn2 := sa_store D_cn2 hs (by simp)
          replace D_ci2 := sa_store D_ci2 hs (by simp)
          replace A_80_92 := arrF_store A_80_92 hs (by simp) nb_b11_71_92
          replace A_87_95 := arrF_store A_87_95 hs (by simp) nb_b11_71_95
          replace kw := keeps_store kw hs lo_b11_71
          clear hs
          refine tail_nil (hK94 _ _ ?_)
          refine wp_seq_k fun K97 hK97 => ?_
          refine wp_seq_k fun K98 hK98 => ?_
          refine wp_reg All mixed hsz95 hdf95 st_tr trivial ?_
          refine Chain.op (φ := Is (.int .i64 (((lb x.ns name : Nat) : Int)))) (st_is _) (sp_move (Has.base rfl e10)) ?_
          refine Chain.op (φ := Is (.int .i64 (((lb x.ns name : Nat) : Int)))) (st_is _) (sp_assign (Has.loc rfl)) ?_
          refine Chain.done ⟨by kernel_rfl, fun a99 g W99 hsz99 hdf99 hk hg henv hrest hpsi => ?_⟩
          obtain ⟨e13, -, -⟩ := henv
          replace e6 := (hrest 6 rfl).trans e6
          replace e3 := (hrest 3 rfl).trans e3
          replace e11 := (hrest 11 rfl).trans e11
          replace A_80_92 := A_80_92.ext hk
          replace A_87_95 := A_87_95.ext hk
          replace D_cn0 := D_cn0.ext hk
          replace D_ci0 := D_ci0.ext hk
          have e13 : sl a99 13 = (.int .i64 (((lb x.ns name : Nat) : Int))) := e13
          replace own_b6_2 := own_b6_2.ext hk
          replace own_b5_2 := own_b5_2.ext hk
          replace own_b3_2 := own_b3_2.ext hk
          replace own_b11_71 := own_b11_71.ext hk
          replace kw := kw.trans (.of_ext hk)
          clear hrest hk hg hpsi
          refine tail_nil (hK98 _ _ ?_)
          refine wp_block ?_
          replace A_80_92 := arrF_less (M' := (blks hd87_95 ++ (blks hd80_92 ++ (b11_71 :: (b6_2 :: (b3_2 :: [])))))) A_80_92 (ls_keepA (ls_keepA (ls_keep (ls_keep (ls_skip (ls_keep ls_nil))))))
          replace A_87_95 := arrF_less (M' := (blks hd87_95 ++ (blks hd80_92 ++ (b11_71 :: (b6_2 :: (b3_2 :: [])))))) A_87_95 (ls_keepA (ls_keepA (ls_keep (ls_keep (ls_skip (ls_keep ls_nil))))))
          replace D_cn0 := sa_less (M' := (blks hd87_95 ++ (blks hd80_92 ++ (b11_71 :: (b6_2 :: (b3_2 :: [])))))) D_cn0 (ls_keepA (ls_keepA (ls_keep (ls_keep (ls_skip (ls_keep ls_nil))))))
          replace D_ci0 := sa_less (M' := (blks hd87_95 ++ (blks hd80_92 ++ (b11_71 :: (b6_2 :: (b3_2 :: [])))))) D_ci0 (ls_keepA (ls_keepA (ls_keep (ls_keep (ls_skip (ls_keep ls_nil))))))
          rw [show (x.ns.take (lb x.ns name)) ++ [name] = x.ns.take (lb x.ns name) ++ [name] ++ (x.ns.drop (lb x.ns name)).take 0 by simp] at A_80_92
          rw [show (x.xs.take (lb x.ns name)) ++ [y] = x.xs.take (lb x.ns name) ++ [y] ++ (x.xs.drop (lb x.ns name)).take 0 by simp] at A_87_95
          refine wp_for (x.ns.length - (lb x.ns name)) (fun k a W => ∃ (va3_100 : Value), ∃ (hd3_100 : Option Nat), ∃ (va4_100 : Value), ∃ (hd4_100 : Option Nat), a.tmps.size = 119 ∧ a.defers = [] ∧ Keeps All w W ∧ sl a 3 = (.pointer (some ⟨b3_2, 0, none⟩)) ∧ sl a 6 = (.pointer (some ⟨b6_2, 0, none⟩)) ∧ sl a 11 = (.pointer (some ⟨b11_71, 0, none⟩)) ∧ sl a 13 = (.int .i64 ((((lb x.ns name) + k : Nat) : Int))) ∧ Own W b6_2 [(.int .u8 (0)), (.int .i64 (0)), (.string (⟨#[]⟩)), (.slice none 0 0), (.slice none 0 0)] 25 ∧ Own W b3_2 [(.int .u8 (x.k)), (.int .i64 (x.n)), (.string (x.t)), (.slice cn0a (x.ns.length) cn0c), (.slice ci0a (x.xs.length) ci0c)] 25 ∧ Own W b11_71 [(.int .u8 (x.k)), (.int .i64 (x.n)), (.string (x.t)), va3_100, va4_100] 25 ∧ Rd W (SA w S (blks hd4_100 ++ (blks hd3_100 ++ (b11_71 :: (b6_2 :: (b3_2 :: [])))))) (strsD (x.ns)) (.slice cn0a (x.ns.length) cn0c) ∧ Rd W (SA w S (blks hd4_100 ++ (blks hd3_100 ++ (b11_71 :: (b6_2 :: (b3_2 :: [])))))) (valsD (x.xs)) (.slice ci0a (x.xs.length) ci0c) ∧ Arr W w.heap.size 9 1 (SF w (blks hd4_100 ++ (blks hd3_100 ++ (b11_71 :: (b6_2 :: (b3_2 :: [])))))) (List.map D.str (x.ns.take (lb x.ns name) ++ [name] ++ (x.ns.drop (lb x.ns name)).take k)) va3_100 hd3_100 ∧ b6_2 ∉ blks hd3_100 ∧ b3_2 ∉ blks hd3_100 ∧ b11_71 ∉ blks hd3_100 ∧ Arr W w.heap.size 25 5 (SF w (blks hd4_100 ++ (blks hd3_100 ++ (b11_71 :: (b6_2 :: (b3_2 :: [])))))) (List.map V.d (x.xs.take (lb x.ns name) ++ [y] ++ (x.xs.drop (lb x.ns name)).take k)) va4_100 hd4_100 ∧ b6_2 ∉ blks hd4_100 ∧ b3_2 ∉ blks hd4_100 ∧ b11_71 ∉ blks hd4_100 ∧ (∀ b ∈ blks hd3_100, b ∉ blks hd4_100)) ⟨(.slice v80_92a v80_92n v80_92c), hd80_92, (.slice v87_95a v87_95n v87_95c), hd87_95, hsz99, hdf99, kw, e3, e6, e11, (e13.trans (congrArg (Value.int .i64) (by omega))), own_b6_2, own_b3_2, own_b11_71, D_cn0, D_ci0, A_80_92, nb_b6_2_92, nb_b3_2_92, nb_b11_71_92, A_87_95, nb_b6_2_95, nb_b3_2_95, nb_b11_71_95, dj_ar76_95⟩ ?_
          clear kw e3 e6 e11 e13 own_b6_2 own_b3_2 own_b11_71 D_cn0 D_ci0 A_80_92 A_87_95
          rintro k a100 W100 hkk ⟨va3_100, hd3_100, va4_100, hd4_100, hsz100, hdf100, kw, e3, e6, e11, e13, own_b6_2, own_b3_2, own_b11_71, D_cn0, D_ci0, A3_100, nb_b6_2_ar76_100, nb_b3_2_ar76_100, nb_b11_71_ar76_100, A4_100, nb_b6_2_ar77_100, nb_b3_2_ar77_100, nb_b11_71_ar77_100, dj_ar76_ar77_100⟩
          refine wp_seq_k fun K101 hK101 => ?_
          refine wp_seq_k fun K102 hK102 => ?_
          refine wp_reg All mixed hsz100 hdf100 st_tr trivial ?_
          refine Chain.op (φ := Is (.int .i64 ((((lb x.ns name) + k : Nat) : Int)))) (st_is _) (sp_move (Has.base rfl e13)) ?_
          refine Chain.op (φ := Is (.pointer (some ⟨b3_2, 3, none⟩))) (st_is _) (sp_fieldO (Has.base rfl e3) Try.underlying25 rfl sz22 rfl) ?_
          refine Chain.op (φ := Is (.slice cn0a (x.ns.length) cn0c)) (st_is _) (sp_loadO (v := (.slice cn0a (x.ns.length) cn0c)) (Has.loc rfl) own_b3_2 trivial agg22 sz22 (Nat.le_of_ble_eq_true rfl) (fun h => by first | rfl | cases h) rfl) ?_
          refine Chain.op (φ := Is (.int .i64 (x.ns.length))) (st_is _) (sp_lenSs Try.underlying22 ((Has.loc rfl).dat D_cn0 sub_all)) ?_
          refine Chain.op (φ := Is (.bool (decide (((((lb x.ns name) + k : Nat) : Int) : Int) < (x.ns.length : Int))))) (st_is _) (sp_lss (Has.loc rfl) (Has.loc rfl)) ?_
          refine Chain.done ⟨by kernel_rfl, fun a103 g W103 hsz103 hdf103 hk hg henv hrest hpsi => ?_⟩
          obtain ⟨e94, -, -, -, -, -⟩ := henv
          replace e6 := (hrest 6 rfl).trans e6
          replace e3 := (hrest 3 rfl).trans e3
          replace e11 := (hrest 11 rfl).trans e11
          replace e13 := (hrest 13 rfl).trans e13
          replace A3_100 := A3_100.ext hk
          replace A4_100 := A4_100.ext hk
          replace D_cn0 := D_cn0.ext hk
          replace D_ci0 := D_ci0.ext hk
          have e94 : sl a103 94 = (.bool (decide (((((lb x.ns name) + k : Nat) : Int) : Int) < (x.ns.length : Int)))) := e94
          replace own_b6_2 := own_b6_2.ext hk
          replace own_b3_2 := own_b3_2.ext hk
          replace own_b11_71 := own_b11_71.ext hk
          replace kw := kw.trans (.of_ext hk)
          clear hrest hk hg hpsi
          refine tail_nil (hK102 _ _ ?_)
          refine wp_cond_split e94 (fun hc => ?_) (fun hc => ?_)
          · -- T: decide (((((lb x.ns name) + k : Nat) : Int) : Int) < (x.ns.length : Int))
            have hlt := of_decide_eq_true hc
            have hltn : ((lb x.ns name) + k) < x.ns.length := by omega
            have hltx : ((lb x.ns name) + k) < x.xs.length := by omega
            have hwm := wts_mem hltx
            refine wp_skip (hK101 _ _ ?_)
            refine wp_seq_k fun K104 hK104 => ?_
            refine wp_block ?_
            refine wp_seq_k fun K105 hK105 => ?_
            refine wp_reg (fun k => k ∉ blks hd3_100) (Ψ := fun W => Arr W w.heap.size 9 1 (SF w (blks hd4_100 ++ (blks hd3_100 ++ (b11_71 :: (b6_2 :: (b3_2 :: [])))))) (List.map D.str (x.ns.take (lb x.ns name) ++ [name] ++ (x.ns.drop (lb x.ns name)).take k)) va3_100 hd3_100) mixed hsz103 hdf103 (fun W W' k h => h.ext k) A3_100 ?_
            refine Chain.op (φ := Is (.pointer (some ⟨b11_71, 3, none⟩))) (st_is _) (sp_fieldO (Has.base rfl e11) Try.underlying25 rfl sz22 rfl) ?_
            refine Chain.op (φ := Is va3_100) (st_is _) (sp_loadO (v := va3_100) (Has.loc rfl) own_b11_71 nb_b11_71_ar76_100 agg22 sz22 (Nat.le_of_ble_eq_true rfl) (fun h => by first | rfl | cases h) rfl) ?_
            refine Chain.op (φ := Is (.pointer (some ⟨b3_2, 3, none⟩))) (st_is _) (sp_fieldO (Has.base rfl e3) Try.underlying25 rfl sz22 rfl) ?_
            refine Chain.op (φ := Is (.slice cn0a (x.ns.length) cn0c)) (st_is _) (sp_loadO (v := (.slice cn0a (x.ns.length) cn0c)) (Has.loc rfl) own_b3_2 nb_b3_2_ar76_100 agg22 sz22 (Nat.le_of_ble_eq_true rfl) (fun h => by first | rfl | cases h) rfl) ?_
            refine Chain.op (φ := Is (.int .i64 ((((lb x.ns name) + k : Nat) : Int)))) (st_is _) (sp_move (Has.base rfl e13)) ?_
            refine Chain.op (φ := IsR (SA w S (blks hd4_100 ++ (blks hd3_100 ++ (b11_71 :: (b6_2 :: (b3_2 :: [])))))) (D.str (x.ns[((lb x.ns name) + k)]'hltn))) (st_r (sub_nb (fun b hb => List.mem_append_right _ (List.mem_append_left _ hb)))) (sp_indexS (i := ((lb x.ns name) + k)) ((Has.loc rfl).dat D_cn0 (sub_nb (fun b hb => List.mem_append_right _ (List.mem_append_left _ hb)))) (Has.loc rfl) Try.underlying22 sz9 rfl hltn) ?_
            refine Chain.op (φ := Is (.string (x.ns[((lb x.ns name) + k)]'hltn))) (st_is _) (sp_loadStr (Has.loc rfl) agg9 sz9) ?_
            refine Chain.op (φ := IsD (SF w (blks hd4_100 ++ (blks hd3_100 ++ (b11_71 :: (b6_2 :: (b3_2 :: [])))))) (strsD ([x.ns[((lb x.ns name) + k)]'hltn]))) (st_d (sub_nbF (fun b hb => List.mem_append_right _ (List.mem_append_left _ hb)))) (sp_bsl (ds := [D.str (x.ns[((lb x.ns name) + k)]'hltn)]) Try.underlying22 sz9 z9 (Nat.le_of_ble_eq_true rfl) (Nat.le_of_ble_eq_true rfl) ⟨rfl, ((Has.loc rfl).str (rd_strAt D_cn0 _ hltn)), trivial⟩ rfl (by simp [width]) (fr_sf kw (in_app A4_100.lt (in_app A3_100.lt (in_cons own_b11_71.lt (in_cons own_b6_2.lt (in_cons own_b3_2.lt in_nil))))))) ?_
            refine Chain.appB (ds := List.map D.str (x.ns.take (lb x.ns name) ++ [name] ++ (x.ns.drop (lb x.ns name)).take k)) (es := [D.str (x.ns[((lb x.ns name) + k)]'hltn)]) (X := SF w (blks hd4_100 ++ (blks hd3_100 ++ (b11_71 :: (b6_2 :: (b3_2 :: [])))))) Try.underlying22 inf9 (Nat.le_of_ble_eq_true rfl) (Has.loc rfl) (Has.loc rfl) (sub_nbF (fun b hb => List.mem_append_right _ (List.mem_append_left _ hb))) (by simp [maxLen]; omega) (by simp; omega) kw.size ?_
            refine Chain.op (φ := Is (.pointer (some ⟨b11_71, 3, none⟩))) (st_is _) (sp_fieldO (Has.base rfl e11) Try.underlying25 rfl sz22 rfl) ?_
            refine Chain.done ⟨by kernel_rfl, fun a106 g W106 hsz106 hdf106 hk hg henv hrest hpsi => ?_⟩
            obtain ⟨e106, e105, -, -, -, -, -, -, -, -, -⟩ := henv
            replace e6 := (hrest 6 rfl).trans e6
            replace e3 := (hrest 3 rfl).trans e3
            replace e11 := (hrest 11 rfl).trans e11
            replace e13 := (hrest 13 rfl).trans e13
            obtain ⟨v105_106, ev⟩ : ∃ v, sl a106 105 = v := ⟨_, rfl⟩
            rw [ev] at e105
            obtain ⟨hd105_106, A_105_106, hf105_106⟩ := e105
            have e105 := ev; clear ev
            obtain ⟨v105_106a, v105_106n, v105_106c, ev⟩ := arr_sl A_105_106; subst ev
            replace A_105_106 := arrF_new (M' := (blks hd4_100 ++ (blks hd105_106 ++ (b11_71 :: (b6_2 :: (b3_2 :: [])))))) A_105_106 (rep_app rep_refl (rep_app (rep_q fun _ h => h) (rep_cons (rep_cons (rep_cons rep_nil)))))
            replace A_105_106 : Arr W106 w.heap.size 9 1 (SF w (blks hd4_100 ++ (blks hd105_106 ++ (b11_71 :: (b6_2 :: (b3_2 :: [])))))) (List.map D.str ((x.ns.take (lb x.ns name) ++ [name] ++ (x.ns.drop (lb x.ns name)).take k) ++ [x.ns[((lb x.ns name) + k)]'hltn])) (.slice v105_106a v105_106n v105_106c) hd105_106 := by first | exact A_105_106 | (rw [List.map_append]; exact A_105_106)
            have nb_b6_2_106 : b6_2 ∉ blks hd105_106 := nb_new nb_b6_2_ar76_100 own_b6_2.lt hf105_106
            have nb_b3_2_106 : b3_2 ∉ blks hd105_106 := nb_new nb_b3_2_ar76_100 own_b3_2.lt hf105_106
            have nb_b11_71_106 : b11_71 ∉ blks hd105_106 := nb_new nb_b11_71_ar76_100 own_b11_71.lt hf105_106
            have dj_ar77_106 : ∀ b ∈ blks hd4_100, b ∉ blks hd105_106 := dj_new (dj_symm dj_ar76_ar77_100) A4_100.lt hf105_106
            replace A4_100 := arrF_app (M' := (blks hd4_100 ++ (blks hd105_106 ++ (b11_71 :: (b6_2 :: (b3_2 :: [])))))) A4_100 hk (fun b hb => List.mem_append_right _ (List.mem_append_left _ hb)) (rep_app rep_refl (rep_app hf105_106 (rep_cons (rep_cons (rep_cons rep_nil))))) (dj_symm dj_ar76_ar77_100)
            replace D_cn0 := sa_app (M' := (blks hd4_100 ++ (blks hd105_106 ++ (b11_71 :: (b6_2 :: (b3_2 :: [])))))) D_cn0 hk (fun b hb => List.mem_append_right _ (List.mem_append_left _ hb)) (rep_app rep_refl (rep_app hf105_106 (rep_cons (rep_cons (rep_cons rep_nil)))))
            replace D_ci0 := sa_app (M' := (blks hd4_100 ++ (blks hd105_106 ++ (b11_71 :: (b6_2 :: (b3_2 :: [])))))) D_ci0 hk (fun b hb => List.mem_append_right _ (List.mem_append_left _ hb)) (rep_app rep_refl (rep_app hf105_106 (rep_cons (rep_cons (rep_cons rep_nil)))))
            replace own_b6_2 := own_app own_b6_2 hk nb_b6_2_ar76_100
            replace own_b3_2 := own_app own_b3_2 hk nb_b3_2_ar76_100
            replace own_b11_71 := own_app own_b11_71 hk nb_b11_71_ar76_100
            replace kw := keeps_app kw hk A3_100.ge
            have e106 : sl a106 106 = (.pointer (some ⟨b11_71, 3, none⟩)) := e106
            clear hrest hk hg hpsi hf105_106 A3_100
            refine tail_store (b := b11_71) (o := 3) (v := (.slice v105_106a v105_106n v105_106c)) e106 e105 sz22 rfl own_b11_71 (Nat.le_of_ble_eq_true rfl) (all_cons rfl all_nil) (fun W107 hs own_b11_71 => ?_)
            have own_b11_71 : Own W107 b11_71 [(.int .u8 (x.k)), (.int .i64 (x.n)), (.string (x.t)), (.slice v105_106a v105_106n v105_106c), va4_100] 25 := own_b11_71
            replace own_b6_2 := own_store own_b6_2 hs ne_b6_2_b11_71
            replace own_b3_2 := own_store own_b3_2 hs ne_b3_2_b11_71
            replace D_cn0 := sa_store D_cn0 hs (by simp)
            replace D_ci0 := sa_store D_ci0 hs (by simp)
            replace A_105_106 := arrF_store A_105_106 hs (by simp) nb_b11_71_106
            replace A4_100 := arrF_store A4_100 hs (by simp) nb_b11_71_ar77_100
            replace kw := keeps_store kw hs lo_b11_71
            clear hs
            refine tail_nil (hK105 _ _ ?_)
            refine wp_reg (fun k => k ∉ blks hd4_100) (Ψ := fun W => Arr W w.heap.size 25 5 (SF w (blks hd4_100 ++ (blks hd105_106 ++ (b11_71 :: (b6_2 :: (b3_2 :: [])))))) (List.map V.d (x.xs.take (lb x.ns name) ++ [y] ++ (x.xs.drop (lb x.ns name)).take k)) va4_100 hd4_100) mixed hsz106 hdf106 (fun W W' k h => h.ext k) A4_100 ?_
            refine Chain.op (φ := Is (.pointer (some ⟨b11_71, 4, none⟩))) (st_is _) (sp_fieldO (Has.base rfl e11) Try.underlying25 rfl sz23 rfl) ?_
            refine Chain.op (φ := Is va4_100) (st_is _) (sp_loadO (v := va4_100) (Has.loc rfl) own_b11_71 nb_b11_71_ar77_100 agg23 sz23 (Nat.le_of_ble_eq_true rfl) (fun h => by first | rfl | cases h) rfl) ?_
            refine Chain.op (φ := Is (.pointer (some ⟨b3_2, 4, none⟩))) (st_is _) (sp_fieldO (Has.base rfl e3) Try.underlying25 rfl sz23 rfl) ?_
            refine Chain.op (φ := Is (.slice ci0a (x.xs.length) ci0c)) (st_is _) (sp_loadO (v := (.slice ci0a (x.xs.length) ci0c)) (Has.loc rfl) own_b3_2 nb_b3_2_ar77_100 agg23 sz23 (Nat.le_of_ble_eq_true rfl) (fun h => by first | rfl | cases h) rfl) ?_
            refine Chain.op (φ := Is (.int .i64 ((((lb x.ns name) + k : Nat) : Int)))) (st_is _) (sp_move (Has.base rfl e13)) ?_
            refine Chain.op (φ := IsR (SA w S (blks hd4_100 ++ (blks hd105_106 ++ (b11_71 :: (b6_2 :: (b3_2 :: [])))))) (V.d (x.xs[((lb x.ns name) + k)]'hltx))) (st_r (sub_nb (fun b hb => List.mem_append_left _ hb))) (sp_indexV (i := ((lb x.ns name) + k)) ((Has.loc rfl).dat D_ci0 (sub_nb (fun b hb => List.mem_append_left _ hb))) (Has.loc rfl) Try.underlying23 sz25 rfl hltx) ?_
            refine Chain.op (φ := IsD (SA w S (blks hd4_100 ++ (blks hd105_106 ++ (b11_71 :: (b6_2 :: (b3_2 :: [])))))) (V.d (x.xs[((lb x.ns name) + k)]'hltx))) (st_d (sub_nb (fun b hb => List.mem_append_left _ hb))) (sp_loadV (Has.loc rfl) agg25 sz25) ?_
            refine Chain.op (φ := IsD (Fr W107) (V.d (x.xs[((lb x.ns name) + k)]'hltx))) (st_d (sub_frnb (fun b hb => A4_100.lt b hb))) (sp_call1 (φ1 := IsD (SA w S (blks hd4_100 ++ (blks hd105_106 ++ (b11_71 :: (b6_2 :: (b3_2 :: [])))))) (V.d (x.xs[((lb x.ns name) + k)]'hltx))) ent14 (Has.loc rfl) (fun g u1 W hk hgk h1 => (Copy_ok (x.xs[((lb x.ns name) + k)]'hltx) (by first | omega | exact Nat.le_of_ble_eq_true (by kernel_rfl)) W _ _ (fun b o h => sa_cln hS b o h.1) h1).mono (ret_fr hk hgk))) ?_
            refine Chain.op (φ := IsD (SF w (blks hd4_100 ++ (blks hd105_106 ++ (b11_71 :: (b6_2 :: (b3_2 :: [])))))) (valsD ([x.xs[((lb x.ns name) + k)]'hltx]))) (st_d (sub_nbF (fun b hb => List.mem_append_left _ hb))) (sp_bsl (ds := [V.d (x.xs[((lb x.ns name) + k)]'hltx)]) Try.underlying23 sz25 z25 (Nat.le_of_ble_eq_true rfl) (Nat.le_of_ble_eq_true rfl) ⟨rfl, ((Has.loc rfl).sup (fr_sf kw (in_app A4_100.lt (in_app A_105_106.lt (in_cons own_b11_71.lt (in_cons own_b6_2.lt (in_cons own_b3_2.lt in_nil))))))), trivial⟩ rfl (by intro e he; simp at he; rcases he with rfl <;> exact width_V _) (fr_sf kw (in_app A4_100.lt (in_app A_105_106.lt (in_cons own_b11_71.lt (in_cons own_b6_2.lt (in_cons own_b3_2.lt in_nil))))))) ?_
            refine Chain.appB (ds := List.map V.d (x.xs.take (lb x.ns name) ++ [y] ++ (x.xs.drop (lb x.ns name)).take k)) (es := [V.d (x.xs[((lb x.ns name) + k)]'hltx)]) (X := SF w (blks hd4_100 ++ (blks hd105_106 ++ (b11_71 :: (b6_2 :: (b3_2 :: [])))))) Try.underlying23 inf25 (Nat.le_of_ble_eq_true rfl) (Has.loc rfl) (Has.loc rfl) (sub_nbF (fun b hb => List.mem_append_left _ hb)) (by simp [maxLen]; omega) (by simp; omega) kw.size ?_
            refine Chain.op (φ := Is (.pointer (some ⟨b11_71, 4, none⟩))) (st_is _) (sp_fieldO (Has.base rfl e11) Try.underlying25 rfl sz23 rfl) ?_
            refine Chain.done ⟨by kernel_rfl, fun a108 g W108 hsz108 hdf108 hk hg henv hrest hpsi => ?_⟩
            obtain ⟨e117, e116, -, -, -, -, -, -, -, -, -, -⟩ := henv
            replace e6 := (hrest 6 rfl).trans e6
            replace e3 := (hrest 3 rfl).trans e3
            replace e11 := (hrest 11 rfl).trans e11
            replace e13 := (hrest 13 rfl).trans e13
            obtain ⟨v116_108, ev⟩ : ∃ v, sl a108 116 = v := ⟨_, rfl⟩
            rw [ev] at e116
            obtain ⟨hd116_108, A_116_108, hf116_108⟩ := e116
            have e116 := ev; clear ev
            obtain ⟨v116_108a, v116_108n, v116_108c, ev⟩ := arr_sl A_116_108; subst ev
            replace A_116_108 := arrF_new (M' := (blks hd116_108 ++ (blks hd105_106 ++ (b11_71 :: (b6_2 :: (b3_2 :: [])))))) A_116_108 (rep_app (rep_q fun _ h => h) (rep_app rep_refl (rep_cons (rep_cons (rep_cons rep_nil)))))
            replace A_116_108 : Arr W108 w.heap.size 25 5 (SF w (blks hd116_108 ++ (blks hd105_106 ++ (b11_71 :: (b6_2 :: (b3_2 :: [])))))) (List.map V.d ((x.xs.take (lb x.ns name) ++ [y] ++ (x.xs.drop (lb x.ns name)).take k) ++ [x.xs[((lb x.ns name) + k)]'hltx])) (.slice v116_108a v116_108n v116_108c) hd116_108 := by first | exact A_116_108 | (rw [List.map_append]; exact A_116_108)
            have nb_b6_2_108 : b6_2 ∉ blks hd116_108 := nb_new nb_b6_2_ar77_100 own_b6_2.lt hf116_108
            have nb_b3_2_108 : b3_2 ∉ blks hd116_108 := nb_new nb_b3_2_ar77_100 own_b3_2.lt hf116_108
            have nb_b11_71_108 : b11_71 ∉ blks hd116_108 := nb_new nb_b11_71_ar77_100 own_b11_71.lt hf116_108
            have dj_ar76_108 : ∀ b ∈ blks hd105_106, b ∉ blks hd116_108 := dj_new (dj_symm dj_ar77_106) A_105_106.lt hf116_108
            replace A_105_106 := arrF_app (M' := (blks hd116_108 ++ (blks hd105_106 ++ (b11_71 :: (b6_2 :: (b3_2 :: [])))))) A_105_106 hk (fun b hb => List.mem_append_left _ hb) (rep_app hf116_108 (rep_app rep_refl (rep_cons (rep_cons (rep_cons rep_nil))))) (dj_symm dj_ar77_106)
            replace D_cn0 := sa_app (M' := (blks hd116_108 ++ (blks hd105_106 ++ (b11_71 :: (b6_2 :: (b3_2 :: [])))))) D_cn0 hk (fun b hb => List.mem_append_left _ hb) (rep_app hf116_108 (rep_app rep_refl (rep_cons (rep_cons (rep_cons rep_nil)))))
            replace D_ci0 := sa_app (M' := (blks hd116_108 ++ (blks hd105_106 ++ (b11_71 :: (b6_2 :: (b3_2 :: [])))))) D_ci0 hk (fun b hb => List.mem_append_left _ hb) (rep_app hf116_108 (rep_app rep_refl (rep_cons (rep_cons (rep_cons rep_nil)))))
            replace own_b6_2 := own_app own_b6_2 hk nb_b6_2_ar77_100
            replace own_b3_2 := own_app own_b3_2 hk nb_b3_2_ar77_100
            replace own_b11_71 := own_app own_b11_71 hk nb_b11_71_ar77_100
            replace kw := keeps_app kw hk A4_100.ge
            have e117 : sl a108 117 = (.pointer (some ⟨b11_71, 4, none⟩)) := e117
            clear hrest hk hg hpsi hf116_108 A4_100
            refine tail_store (b := b11_71) (o := 4) (v := (.slice v116_108a v116_108n v116_108c)) e117 e116 sz23 rfl own_b11_71 (Nat.le_of_ble_eq_true rfl) (all_cons rfl all_nil) (fun W109 hs own_b11_71 => ?_)
            have own_b11_71 : Own W109 b11_71 [(.int .u8 (x.k)), (.int .i64 (x.n)), (.string (x.t)), (.slice v105_106a v105_106n v105_106c), (.slice v116_108a v116_108n v116_108c)] 25 := own_b11_71
            replace own_b6_2 := own_store own_b6_2 hs ne_b6_2_b11_71
            replace own_b3_2 := own_store own_b3_2 hs ne_b3_2_b11_71
            replace D_cn0 := sa_store D_cn0 hs (by simp)
            replace D_ci0 := sa_store D_ci0 hs (by simp)
            replace A_105_106 := arrF_store A_105_106 hs (by simp) nb_b11_71_106
            replace A_116_108 := arrF_store A_116_108 hs (by simp) nb_b11_71_108
            replace kw := keeps_store kw hs lo_b11_71
            clear hs
            refine tail_nil (hK104 _ _ ?_)
            refine wp_reg All mixed hsz108 hdf108 st_tr trivial ?_
            refine Chain.op (φ := Is (.int .i64 ((((lb x.ns name) + k : Nat) : Int)))) (st_is _) (sp_move (Has.base rfl e13)) ?_
            refine Chain.op (φ := Is (.int .i64 (((((lb x.ns name) + k : Nat) : Int) : Int) + (1 : Int)))) (st_is _) (sp_add (Has.loc rfl) Has.cst (i64_in (by omega))) ?_
            refine Chain.op (φ := Is (.int .i64 (((((lb x.ns name) + k : Nat) : Int) : Int) + (1 : Int)))) (st_is _) (sp_assign (Has.loc rfl)) ?_
            refine Chain.done ⟨by kernel_rfl, fun a110 g W110 hsz110 hdf110 hk hg henv hrest hpsi => ?_⟩
            obtain ⟨e13, -, -, -⟩ := henv
            replace e6 := (hrest 6 rfl).trans e6
            replace e3 := (hrest 3 rfl).trans e3
            replace e11 := (hrest 11 rfl).trans e11
            replace A_105_106 := A_105_106.ext hk
            replace A_116_108 := A_116_108.ext hk
            replace D_cn0 := D_cn0.ext hk
            replace D_ci0 := D_ci0.ext hk
            have e13 : sl a110 13 = (.int .i64 (((((lb x.ns name) + k : Nat) : Int) : Int) + (1 : Int))) := e13
            replace own_b6_2 := own_b6_2.ext hk
            replace own_b3_2 := own_b3_2.ext hk
            replace own_b11_71 := own_b11_71.ext hk
            replace kw := kw.trans (.of_ext hk)
            clear hrest hk hg hpsi
            rw [show (x.ns.take (lb x.ns name) ++ [name] ++ (x.ns.drop (lb x.ns name)).take k) ++ [x.ns[((lb x.ns name) + k)]'hltn] = x.ns.take (lb x.ns name) ++ [name] ++ (x.ns.drop (lb x.ns name)).take (k + 1) by rw [List.append_assoc, tds _ _ _ hltn]] at A_105_106
            rw [show (x.xs.take (lb x.ns name) ++ [y] ++ (x.xs.drop (lb x.ns name)).take k) ++ [x.xs[((lb x.ns name) + k)]'hltx] = x.xs.take (lb x.ns name) ++ [y] ++ (x.xs.drop (lb x.ns name)).take (k + 1) by rw [List.append_assoc, tds _ _ _ hltx]] at A_116_108
            exact tail_nil ⟨by omega, (.slice v105_106a v105_106n v105_106c), hd105_106, (.slice v116_108a v116_108n v116_108c), hd116_108, hsz110, hdf110, kw, e3, e6, e11, (e13.trans (congrArg (Value.int .i64) (by omega))), own_b6_2, own_b3_2, own_b11_71, D_cn0, D_ci0, A_105_106, nb_b6_2_106, nb_b3_2_106, nb_b11_71_106, A_116_108, nb_b6_2_108, nb_b3_2_108, nb_b11_71_108, dj_ar76_108⟩
          · -- E: decide (((((lb x.ns name) + k : Nat) : Int) : Int) < (x.ns.length : Int))
            have hge0 := of_decide_eq_false hc
            rw [show x.ns.take (lb x.ns name) ++ [name] ++ (x.ns.drop (lb x.ns name)).take k = x.ns.take (lb x.ns name) ++ [name] ++ x.ns.drop (lb x.ns name) by rw [tdall _ _ _ (by omega)]] at A3_100
            have D_va3_100 : Rd W103 (SF w (blks hd4_100 ++ (b11_71 :: (b6_2 :: (b3_2 :: []))))) (strsD (x.ns.take (lb x.ns name) ++ [name] ++ x.ns.drop (lb x.ns name))) va3_100 := arrF_rd A3_100 (ls_keepA (ls_skipA (ls_keep (ls_keep (ls_keep ls_nil))))) (nin_app dj_ar76_ar77_100 (nin_cons nb_b11_71_ar76_100 (nin_cons nb_b6_2_ar76_100 (nin_cons nb_b3_2_ar76_100 nin_nil))))
            obtain ⟨va3_100a, va3_100c, ev, D2⟩ := rdS_out D_va3_100
            subst ev; replace D_va3_100 := D2; clear D2
            replace D_cn0 := sa_less (M' := (blks hd4_100 ++ (b11_71 :: (b6_2 :: (b3_2 :: []))))) D_cn0 (ls_keepA (ls_skipA (ls_keep (ls_keep (ls_keep ls_nil)))))
            replace D_ci0 := sa_less (M' := (blks hd4_100 ++ (b11_71 :: (b6_2 :: (b3_2 :: []))))) D_ci0 (ls_keepA (ls_skipA (ls_keep (ls_keep (ls_keep ls_nil)))))
            replace A4_100 := arrF_less (M' := (blks hd4_100 ++ (b11_71 :: (b6_2 :: (b3_2 :: []))))) A4_100 (ls_keepA (ls_skipA (ls_keep (ls_keep (ls_keep ls_nil)))))
            rw [show x.xs.take (lb x.ns name) ++ [y] ++ (x.xs.drop (lb x.ns name)).take k = x.xs.take (lb x.ns name) ++ [y] ++ x.xs.drop (lb x.ns name) by rw [tdall _ _ _ (by omega)]] at A4_100
            have D_va4_100 : Rd W103 (SF w [b11_71, b6_2, b3_2]) (valsD (x.xs.take (lb x.ns name) ++ [y] ++ x.xs.drop (lb x.ns name))) va4_100 := arrF_rd A4_100 (ls_skipA (ls_keep (ls_keep (ls_keep ls_nil)))) (nin_cons nb_b11_71_ar77_100 (nin_cons nb_b6_2_ar77_100 (nin_cons nb_b3_2_ar77_100 nin_nil)))
            obtain ⟨va4_100a, va4_100c, ev, D2⟩ := rdVs_out D_va4_100
            subst ev; replace D_va4_100 := D2; clear D2
            replace D_cn0 := sa_less (M' := [b11_71, b6_2, b3_2]) D_cn0 (ls_skipA (ls_keep (ls_keep (ls_keep ls_nil))))
            replace D_ci0 := sa_less (M' := [b11_71, b6_2, b3_2]) D_ci0 (ls_skipA (ls_keep (ls_keep (ls_keep ls_nil))))
            replace D_va3_100 := sf_less (M' := [b11_71, b6_2, b3_2]) D_va3_100 (ls_skipA (ls_keep (ls_keep (ls_keep ls_nil))))
            refine wp_exit (hK97 _ _ ?_)
            refine wp_seq_k fun K111 hK111 => ?_
            refine wp_reg All mixed hsz103 hdf103 st_tr trivial ?_
            refine Chain.op (φ := Is (.agg #[(.int .u8 (x.k)), (.int .i64 (x.n)), (.string (x.t)), (.slice va3_100a ((x.ns.take (lb x.ns name) ++ [name] ++ x.ns.drop (lb x.ns name)).length) va3_100c), (.slice va4_100a ((x.xs.take (lb x.ns name) ++ [y] ++ x.xs.drop (lb x.ns name)).length) va4_100c)])) (st_is _) (sp_loadO (v := (.agg #[(.int .u8 (x.k)), (.int .i64 (x.n)), (.string (x.t)), (.slice va3_100a ((x.ns.take (lb x.ns name) ++ [name] ++ x.ns.drop (lb x.ns name)).length) va3_100c), (.slice va4_100a ((x.xs.take (lb x.ns name) ++ [y] ++ x.xs.drop (lb x.ns name)).length) va4_100c)])) (Has.base rfl e11) own_b11_71 trivial agg25 sz25 (Nat.le_of_ble_eq_true rfl) (fun h => by first | rfl | cases h) rfl) ?_
            refine Chain.done ⟨by kernel_rfl, fun a112 g W112 hsz112 hdf112 hk hg henv hrest hpsi => ?_⟩
            obtain ⟨e118, -⟩ := henv
            replace e6 := (hrest 6 rfl).trans e6
            replace D_cn0 := D_cn0.ext hk
            replace D_ci0 := D_ci0.ext hk
            replace D_va3_100 := D_va3_100.ext hk
            replace D_va4_100 := D_va4_100.ext hk
            have e118 : sl a112 118 = (.agg #[(.int .u8 (x.k)), (.int .i64 (x.n)), (.string (x.t)), (.slice va3_100a ((x.ns.take (lb x.ns name) ++ [name] ++ x.ns.drop (lb x.ns name)).length) va3_100c), (.slice va4_100a ((x.xs.take (lb x.ns name) ++ [y] ++ x.xs.drop (lb x.ns name)).length) va4_100c)]) := e118
            replace own_b6_2 := own_b6_2.ext hk
            replace own_b3_2 := own_b3_2.ext hk
            replace own_b11_71 := own_b11_71.ext hk
            replace kw := kw.trans (.of_ext hk)
            clear hrest hk hg hpsi
            refine tail_store (b := b6_2) (o := 0) (v := (.agg #[(.int .u8 (x.k)), (.int .i64 (x.n)), (.string (x.t)), (.slice va3_100a ((x.ns.take (lb x.ns name) ++ [name] ++ x.ns.drop (lb x.ns name)).length) va3_100c), (.slice va4_100a ((x.xs.take (lb x.ns name) ++ [y] ++ x.xs.drop (lb x.ns name)).length) va4_100c)])) e6 e118 sz25 rfl own_b6_2 (Nat.le_of_ble_eq_true rfl) (all_cons rfl (all_cons rfl (all_cons rfl (all_cons rfl (all_cons rfl all_nil))))) (fun W113 hs own_b6_2 => ?_)
            have own_b6_2 : Own W113 b6_2 [(.int .u8 (x.k)), (.int .i64 (x.n)), (.string (x.t)), (.slice va3_100a ((x.ns.take (lb x.ns name) ++ [name] ++ x.ns.drop (lb x.ns name)).length) va3_100c), (.slice va4_100a ((x.xs.take (lb x.ns name) ++ [y] ++ x.xs.drop (lb x.ns name)).length) va4_100c)] 25 := own_b6_2
            replace own_b3_2 := own_store own_b3_2 hs ne_b6_2_b3_2.symm
            replace own_b11_71 := own_store own_b11_71 hs ne_b6_2_b11_71.symm
            replace D_cn0 := sa_store D_cn0 hs (by simp)
            replace D_ci0 := sa_store D_ci0 hs (by simp)
            replace D_va3_100 := sf_store D_va3_100 hs (by simp)
            replace D_va4_100 := sf_store D_va4_100 hs (by simp)
            replace kw := keeps_store kw hs lo_b6_2
            clear hs
            refine tail_assign (v := (.int .i64 (0))) rfl (by rw [hsz112]; exact Nat.le_of_ble_eq_true rfl) (fun a114 hsz114 hdf114 e7 hr => ?_)
            replace hsz114 := hsz114.trans hsz112; replace hdf114 := hdf114.trans hdf112
            replace e6 := (hr 6 (by decide)).trans e6
            replace e118 := (hr 118 (by decide)).trans e118
            clear hr
            refine tail_nil (hK111 _ _ ?_)
            refine wp_ret ?_
            refine (show bodyPost Try.prog Try.f25 _ .ret _ _ from retCT (v := (.agg #[(.int .u8 (x.k)), (.int .i64 (x.n)), (.string (x.t)), (.slice va3_100a ((x.ns.take (lb x.ns name) ++ [name] ++ x.ns.drop (lb x.ns name)).length) va3_100c), (.slice va4_100a ((x.xs.take (lb x.ns name) ++ [y] ++ x.xs.drop (lb x.ns name)).length) va4_100c)])) rfl hdf114 e6 own_b6_2 agg25 sz25 rfl (fun h => by cases h) rfl e7 ⟨_, rfl, kw, ?_⟩)
            refine ⟨_, by simp only [hwe]; rfl, ?_⟩
            rw [hwv]
            exact sf_fr (rdV_mk ht0 D_va3_100 D_va4_100 : Rd W113 (SF w [b11_71, b6_2, b3_2]) (V.d (V.mk (x.k) (x.n) (x.t) (x.ns.take (lb x.ns name) ++ [name] ++ x.ns.drop (lb x.ns name)) (x.xs.take (lb x.ns name) ++ [y] ++ x.xs.drop (lb x.ns name)))) _)

end Go.Proofs.Ytkhnemiflpjbpaa
