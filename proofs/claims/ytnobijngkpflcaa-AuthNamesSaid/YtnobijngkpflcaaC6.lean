import Derived.Test.YtnobijngkpflcaaC5
namespace Go.Proofs.Ytnobijngkpflcaa
open Go.Eng
set_option maxRecDepth 100000 in
theorem clone_ok (ns : List ByteArray) (hn : ns.length ≤ 1073741824) (w : World) (S : BSet) (v : Value) (hv : Rd w S (strsD ns) v) : Calls Try.prog 136 #[v] w (Ret w fun u W => Rd W (Fr w) (strsD ns) u) := by
  obtain ⟨va, vc, ev, D_v⟩ := rdS_out (rd_arg hv)
  subst ev
  refine enter Try.func136 rfl Try.ntmps136 (lbr rfl) fun a0 y0 zz0 harg => ?_
  have e0 : sl a0 0 = (.slice va (ns.length) vc) := harg 0 (lbr rfl)
  have kw := Keeps.refl All w
  clear harg
  refine wp_seq_k fun K1 hK1 => ?_
  refine rg mixed y0 zz0 ?_
  refine .i (sp_assign Has.cst) ?_
  refine .done ⟨by kernel_rfl, fun a2 g W2 y2 zz2 hk hg hV hR hP => ?_⟩
  obtain ⟨-, -⟩ := hV
  replace e0 := (hR 0 rfl).trans e0
  replace D_v := D_v.ext hk
  replace kw := kw.x hk
  clear hR hk hg hP
  refine tail_nil (hK1 _ _ ?_)
  refine wp_seq_k fun K3 hK3 => ?_
  refine wp_seq_k fun K4 hK4 => ?_
  refine rg mixed y2 zz2 ?_
  refine .i (sp_move (hbs rfl e0)) ?_
  refine .i (v := (.bool (va.isNone))) (sp_slNil Try.underlying23 (hlc rfl) Has.cst) ?_
  refine .done ⟨by kernel_rfl, fun a5 g W5 y5 zz5 hk hg hV hR hP => ?_⟩
  obtain ⟨e4, -, -⟩ := hV
  replace e0 := (hR 0 rfl).trans e0
  replace D_v := D_v.ext hk
  have e4 : sl a5 4 = (.bool (va.isNone)) := e4
  replace kw := kw.x hk
  clear hR hk hg hP
  refine tail_nil (hK4 _ _ ?_)
  refine wp_cond_split e4 (fun hc => ?_) (fun hc => ?_)
  ·
   have hns : ns = [] := by simpa using rd_none (ds := ns.map D.str) D_v hc
   subst hns
   refine wp_seq_k fun K6 hK6 => ?_
   refine rg mixed y5 zz5 ?_
   refine .i (sp_assign Has.cst) ?_
   refine .done ⟨by kernel_rfl, fun a7 g W7 y7 zz7 hk hg hV hR hP => ?_⟩
   obtain ⟨e2, -⟩ := hV
   replace D_v := D_v.ext hk
   have e2 : sl a7 2 = (.slice none 0 0) := e2
   replace kw := kw.x hk
   clear hR hk hg hP
   refine tail_nil (hK6 _ _ ?_)
   refine wp_ret ?_
   refine (show bodyPost Try.prog Try.f136 _ .ret _ _ from ret1 rfl zz7 e2 ⟨_, rfl, kw, ?_⟩)
   exact rd_nil _
  ·
   refine wp_skip (hK3 _ _ ?_)
   refine wp_seq_k fun K8 hK8 => ?_
   refine rg mixed y5 zz5 ?_
   refine .op (φ := IsE 9) st_e (sp_bslE Try.underlying23 sz9) ?_
   refine .i (sp_move (hbs rfl e0)) ?_
   refine .da (X := SF w []) (e := strsD (ns)) (sp_appS Try.underlying23 inf9 (hlc rfl) ((hlc rfl).dat D_v sub_all) (by omega) (by omega) (fr_sf kw in_nil)) ?_
   refine .da (X := SF w []) (e := strsD (ns)) (sp_assign (hlc rfl)) ?_
   refine .done ⟨by kernel_rfl, fun a9 g W9 y9 zz9 hk hg hV hR hP => ?_⟩
   obtain ⟨e2, -, -, -, -⟩ := hV
   replace D_v := D_v.ext hk
   obtain ⟨v2_9, ev⟩ : ∃ v, sl a9 2 = v := ⟨_, rfl⟩
   rw [ev] at e2
   have D_v2_9 : Rd W9 (SF w []) (strsD (ns)) v2_9 := sf_end e2 hk [] in_nil
   replace e2 := ev; clear ev
   obtain ⟨v2_9a, v2_9c, ev, D2⟩ := rdS_out D_v2_9
   subst ev; replace D_v2_9 := D2; clear D2
   replace kw := kw.x hk
   clear hR hk hg hP
   refine tail_nil (hK8 _ _ ?_)
   refine wp_ret ?_
   refine (show bodyPost Try.prog Try.f136 _ .ret _ _ from ret1 rfl zz9 e2 ⟨_, rfl, kw, ?_⟩)
   exact sf_fr D_v2_9

set_option maxRecDepth 100000 in
theorem duplicate_all : ∀ (n : Nat) (x : V), x.wt ≤ n → n ≤ 1073741824 → ∀ (w : World) (S : BSet) (v : Value), Rd w S x.d v → Calls Try.prog 138 #[v] w (Ret w fun u W => Rd W (Fr w) x.d u) := by
  intro n
  induction n with
  | zero => intro x hx; have := wt_pos x; omega
  | succ n ih =>
  intro x hx hn w S v hv
  have hwx := wt_eq x
  have hwl := wts_len x.xs
  have hwn := wtN_len x.ns
  obtain ⟨cn0a, cn0c, ci0a, ci0c, ev, ht0, D_cn0, D_ci0⟩ := rdV_out (rd_arg hv)
  subst ev
  refine enter Try.func138 rfl Try.ntmps138 (lbr rfl) fun a0 y0 zz0 harg => ?_
  have e0 : sl a0 0 = (.agg #[(.int .u8 (x.k)), (.int .i64 (x.n)), (.string (x.t)), (.slice cn0a (x.ns.length) cn0c), (.slice ci0a (x.xs.length) ci0c)]) := harg 0 (lbr rfl)
  have kw := Keeps.refl All w
  clear harg
  refine wp_seq_k fun K1 hK1 => ?_
  refine rg mixed y0 zz0 ?_
  refine .boxOp (v := (.agg #[(.int .u8 (x.k)), (.int .i64 (x.n)), (.string (x.t)), (.slice cn0a (x.ns.length) cn0c), (.slice ci0a (x.xs.length) ci0c)])) (hbs rfl e0) ?_
  refine .alloc z33 ?_
  refine .done ⟨by kernel_rfl, fun a2 g W2 y2 zz2 hk hg hV hR hP => ?_⟩
  obtain ⟨⟨b2_2, e2, hb2, own_b2_2⟩, ⟨b1_2, e1, hb1, own_b1_2⟩, -⟩ := hV
  have lo_b2_2 : w.heap.size ≤ b2_2 := Nat.le_trans kw.size (hg.lo _ _ hb2)
  have own_b2_2 : Own W2 b2_2 [(.int .u8 (0)), (.int .i64 (0)), (.string (⟨#[]⟩)), (.slice none 0 0), (.slice none 0 0)] 33 := own_b2_2
  have lo_b1_2 : w.heap.size ≤ b1_2 := Nat.le_trans kw.size (hg.lo _ _ hb1)
  have own_b1_2 : Own W2 b1_2 [(.int .u8 (x.k)), (.int .i64 (x.n)), (.string (x.t)), (.slice cn0a (x.ns.length) cn0c), (.slice ci0a (x.xs.length) ci0c)] 33 := own_b1_2
  have ne_b2_2_b1_2 : b2_2 ≠ b1_2 := fun h => by have := hg.inj _ _ _ hb2 (h ▸ hb1); cases this
  replace D_cn0 := sa_more D_cn0 hk [b2_2, b1_2] (in_cons (hg.lo _ _ hb2) (in_cons (hg.lo _ _ hb1) in_nil))
  replace D_ci0 := sa_more D_ci0 hk [b2_2, b1_2] (in_cons (hg.lo _ _ hb2) (in_cons (hg.lo _ _ hb1) in_nil))
  replace kw := kw.x hk
  clear hR hk hg hP hb2 hb1
  refine tail_nil (hK1 _ _ ?_)
  refine wp_seq_k fun K3 hK3 => ?_
  refine rg mixed y2 zz2 ?_
  refine .i (fo 0 (hbs rfl e1) Try.underlying33 rfl sz5 rfl) ?_
  refine .i (lo1 (hlc rfl) own_b1_2 trivial agg5 sz5 rfl) ?_
  refine .i (fo 1 (hbs rfl e1) Try.underlying33 rfl sz2 rfl) ?_
  refine .i (lo1 (hlc rfl) own_b1_2 trivial agg2 sz2 rfl) ?_
  refine .i (fo 2 (hbs rfl e1) Try.underlying33 rfl sz9 rfl) ?_
  refine .i (lo1 (hlc rfl) own_b1_2 trivial agg9 sz9 rfl) ?_
  refine .i (fo 3 (hbs rfl e1) Try.underlying33 rfl sz23 rfl) ?_
  refine .i (lo1 (hlc rfl) own_b1_2 trivial agg23 sz23 rfl) ?_
  refine .da (X := Fr W2) (e := strsD (x.ns)) (sp_call1 (φ1 := IsD (SA w S [b2_2, b1_2]) (strsD (x.ns))) ent136 ((hlc rfl).dat D_cn0 sub_all) (fun g u1 W hk hgk h1 => (clone_ok (x.ns) (by omega) W _ _ h1).mono (ret_fr hk hgk))) ?_
  refine .op (φ := IsHole (fun v => .agg #[(.int .u8 (x.k)), (.int .i64 (x.n)), (.string (x.t)), v, (.slice none 0 0)]) (IsD (Fr W2) (strsD (x.ns)))) (st_hole (st_d sub_all)) (sp_build1 (vs := [(0, some (.int .u8 (x.k))), (1, some (.int .i64 (x.n))), (2, some (.string (x.t))), (3, none)]) (cells := fun v => #[(.int .u8 (x.k)), (.int .i64 (x.n)), (.string (x.t)), v, (.slice none 0 0)]) Try.underlying33 z33 (pl33 Try.underlying33) (hlc rfl) (fun _ => by simp [Op.operands]) sl_strs ⟨rfl, (hlc rfl), ⟨rfl, (hlc rfl), ⟨rfl, (hlc rfl), ⟨rfl, rfl, trivial⟩⟩⟩⟩ (fun _ _ _ => rfl)) ?_
  refine .alloc z33 ?_
  refine .done ⟨by kernel_rfl, fun a4 g W4 y4 zz4 hk hg hV hR hP => ?_⟩
  obtain ⟨⟨b3_4, e3, hb3, own_b3_4⟩, e15, -, -, -, -, -, -, -, -, -, -⟩ := hV
  have lo_b3_4 : w.heap.size ≤ b3_4 := Nat.le_trans kw.size (hg.lo _ _ hb3)
  have ne_b2_2_b3_4 : b2_2 ≠ b3_4 := Nat.ne_of_lt (Nat.lt_of_lt_of_le own_b2_2.lt (hg.lo _ _ hb3))
  have ne_b1_2_b3_4 : b1_2 ≠ b3_4 := Nat.ne_of_lt (Nat.lt_of_lt_of_le own_b1_2.lt (hg.lo _ _ hb3))
  have own_b3_4 : Own W4 b3_4 [(.int .u8 (0)), (.int .i64 (0)), (.string (⟨#[]⟩)), (.slice none 0 0), (.slice none 0 0)] 33 := own_b3_4
  replace e2 := (hR 2 rfl).trans e2
  replace e1 := (hR 1 rfl).trans e1
  replace D_cn0 := sa_more D_cn0 hk [b3_4] (in_cons (hg.lo _ _ hb3) in_nil)
  replace D_ci0 := sa_more D_ci0 hk [b3_4] (in_cons (hg.lo _ _ hb3) in_nil)
  obtain ⟨v15_4a, v15_4n, v15_4c, ev, D_v15_4⟩ := e15
  replace D_v15_4 : Rd W4 (SF w [b3_4, b2_2, b1_2]) (strsD (x.ns)) _ := fr_end (M := [b2_2, b1_2]) D_v15_4 kw [b3_4] (in_cons ⟨_, hb3⟩ in_nil) (in_cons own_b2_2.lt (in_cons own_b1_2.lt in_nil))
  obtain ⟨xa, xc, ev2, D2⟩ := rdS_out D_v15_4
  injection ev2 with h1 h2 h3; subst h1 h2 h3; clear D2
  have e15 : sl a4 15 = (.agg #[(.int .u8 (x.k)), (.int .i64 (x.n)), (.string (x.t)), (.slice v15_4a (x.ns.length) v15_4c), (.slice none 0 0)]) := ev; clear ev
  replace own_b2_2 := own_b2_2.ext hk
  replace own_b1_2 := own_b1_2.ext hk
  replace kw := kw.x hk
  clear hR hk hg hP hb3
  refine tail_store (b := b3_4) (o := 0) (v := (.agg #[(.int .u8 (x.k)), (.int .i64 (x.n)), (.string (x.t)), (.slice v15_4a (x.ns.length) v15_4c), (.slice none 0 0)])) e3 e15 sz33 rfl own_b3_4 (lbr rfl) (all_cons rfl (all_cons rfl (all_cons rfl (all_cons rfl (all_cons rfl all_nil))))) (fun W5 hs own_b3_4 => ?_)
  have own_b3_4 : Own W5 b3_4 [(.int .u8 (x.k)), (.int .i64 (x.n)), (.string (x.t)), (.slice v15_4a (x.ns.length) v15_4c), (.slice none 0 0)] 33 := own_b3_4
  replace own_b2_2 := own_store own_b2_2 hs ne_b2_2_b3_4
  replace own_b1_2 := own_store own_b1_2 hs ne_b1_2_b3_4
  replace D_cn0 := sa_store D_cn0 hs (by simp)
  replace D_ci0 := sa_store D_ci0 hs (by simp)
  replace D_v15_4 := sf_store D_v15_4 hs (by simp)
  replace kw := keeps_store kw hs lo_b3_4
  clear hs
  refine tail_nil (hK3 _ _ ?_)
  refine wp_seq_k fun K6 hK6 => ?_
  refine wp_seq_k fun K7 hK7 => ?_
  refine rg mixed y4 zz4 ?_
  refine .i (fo 4 (hbs rfl e1) Try.underlying33 rfl sz31 rfl) ?_
  refine .i (lo1 (hlc rfl) own_b1_2 trivial agg31 sz31 rfl) ?_
  refine .i (sp_lenVs Try.underlying31 ((hlc rfl).dat D_ci0 sub_all)) ?_
  refine .i (sp_move Has.cst) ?_
  refine .done ⟨by kernel_rfl, fun a8 g W8 y8 zz8 hk hg hV hR hP => ?_⟩
  obtain ⟨e19, e18, e17, -, -⟩ := hV
  replace e2 := (hR 2 rfl).trans e2
  replace e3 := (hR 3 rfl).trans e3
  replace D_cn0 := D_cn0.ext hk
  replace D_ci0 := D_ci0.ext hk
  replace D_v15_4 := D_v15_4.ext hk
  have e17 : sl a8 17 = (.slice ci0a (x.xs.length) ci0c) := e17
  have e18 : sl a8 18 = (.int .i64 (x.xs.length)) := e18
  have e19 : sl a8 19 = (.int .i64 (0)) := e19
  replace own_b2_2 := own_b2_2.ext hk
  replace own_b1_2 := own_b1_2.ext hk
  replace own_b3_4 := own_b3_4.ext hk
  replace kw := kw.x hk
  clear hR hk hg hP
  refine tail_nil (hK7 _ _ ?_)
  refine wp_block ?_
  replace D_ci0 := sa_less (M' := [b3_4, b2_2]) D_ci0 (ls_keep (ls_keep ls_nil))
  replace D_v15_4 := sf_less (M' := [b3_4, b2_2]) D_v15_4 (ls_keep (ls_keep ls_nil))
  have A_ar9 : Arr W8 w.heap.size 33 5 (SF w (blks none ++ (b3_4 :: (b2_2 :: [])))) (List.map V.d ([])) (.slice none 0 0) none := arr_nil _ _ _ _ _
  replace D_ci0 : Rd W8 (SA w S (blks none ++ (b3_4 :: (b2_2 :: [])))) (valsD (x.xs)) (.slice ci0a (x.xs.length) ci0c) := D_ci0
  replace D_v15_4 : Rd W8 (SF w (blks none ++ (b3_4 :: (b2_2 :: [])))) (strsD (x.ns)) (.slice v15_4a (x.ns.length) v15_4c) := D_v15_4
  refine wp_for (x.xs.length) (fun k a W => ∃ (va4_10 : Value), ∃ (hd4_10 : Option Nat), a.tmps.size = 32 ∧ a.defers = [] ∧ Keeps All w W ∧ sl a 2 = (.pointer (some ⟨b2_2, 0, none⟩)) ∧ sl a 3 = (.pointer (some ⟨b3_4, 0, none⟩)) ∧ sl a 17 = (.slice ci0a (x.xs.length) ci0c) ∧ sl a 18 = (.int .i64 (x.xs.length)) ∧ sl a 19 = (.int .i64 ((k : Nat))) ∧ Own W b2_2 [(.int .u8 (0)), (.int .i64 (0)), (.string (⟨#[]⟩)), (.slice none 0 0), (.slice none 0 0)] 33 ∧ Own W b3_4 [(.int .u8 (x.k)), (.int .i64 (x.n)), (.string (x.t)), (.slice v15_4a (x.ns.length) v15_4c), va4_10] 33 ∧ Rd W (SA w S (blks hd4_10 ++ (b3_4 :: (b2_2 :: [])))) (valsD (x.xs)) (.slice ci0a (x.xs.length) ci0c) ∧ Rd W (SF w (blks hd4_10 ++ (b3_4 :: (b2_2 :: [])))) (strsD (x.ns)) (.slice v15_4a (x.ns.length) v15_4c) ∧ Arr W w.heap.size 33 5 (SF w (blks hd4_10 ++ (b3_4 :: (b2_2 :: [])))) (List.map V.d (x.xs.take k)) va4_10 hd4_10 ∧ b2_2 ∉ blks hd4_10 ∧ b3_4 ∉ blks hd4_10) ⟨(.slice none 0 0), none, y8, zz8, kw, e2, e3, e17, e18, (e19.trans (congrArg (Value.int .i64) (rfl))), own_b2_2, own_b3_4, D_ci0, D_v15_4, A_ar9, nb_none, nb_none⟩ ?_
  clear kw e2 e3 e17 e18 e19 own_b2_2 own_b3_4 D_ci0 D_v15_4 A_ar9
  rintro k a10 W10 hkk ⟨va4_10, hd4_10, y10, zz10, kw, e2, e3, e17, e18, e19, own_b2_2, own_b3_4, D_ci0, D_v15_4, A4_10, nb_b2_2_ar9_10, nb_b3_4_ar9_10⟩
  refine wp_seq_k fun K11 hK11 => ?_
  refine rg mixed y10 zz10 ?_
  refine .i (sp_lss (hbs rfl e19) (hbs rfl e18)) ?_
  refine .done ⟨by kernel_rfl, fun a12 g W12 y12 zz12 hk hg hV hR hP => ?_⟩
  obtain ⟨e20, -⟩ := hV
  replace e2 := (hR 2 rfl).trans e2
  replace e3 := (hR 3 rfl).trans e3
  replace e17 := (hR 17 rfl).trans e17
  replace e18 := (hR 18 rfl).trans e18
  replace e19 := (hR 19 rfl).trans e19
  replace A4_10 := A4_10.ext hk
  replace D_ci0 := D_ci0.ext hk
  replace D_v15_4 := D_v15_4.ext hk
  replace e20 := e20.q
  replace own_b2_2 := own_b2_2.ext hk
  replace own_b3_4 := own_b3_4.ext hk
  replace kw := kw.x hk
  clear hR hk hg hP
  refine tail_nil (hK11 _ _ ?_)
  refine wp_seq_k fun K13 hK13 => ?_
  refine wp_cond_split e20 (fun hc => ?_) (fun hc => ?_)
  ·
   have hlt : k < x.xs.length := by simpa using hc
   have hwm := wts_mem hlt
   refine wp_skip (hK13 _ _ ?_)
   refine wp_seq_k fun K14 hK14 => ?_
   refine wp_block ?_
   refine wp_seq_k fun K15 hK15 => ?_
   refine rg mixed y12 zz12 ?_
   refine .rf (sp_indexV (i := k) ((hbs rfl e17).dat D_ci0 sub_all) (hbs rfl e19) Try.underlying31 sz33 rfl hlt) ?_
   refine .da (sp_loadV (hlc rfl) agg33 sz33) ?_
   refine .alloc z33 ?_
   refine .done ⟨by kernel_rfl, fun a16 g W16 y16 zz16 hk hg hV hR hP => ?_⟩
   obtain ⟨⟨b5_16, e5, hb5, own_b5_16⟩, e22, -, -⟩ := hV
   have lo_b5_16 : w.heap.size ≤ b5_16 := Nat.le_trans kw.size (hg.lo _ _ hb5)
   have ne_b2_2_b5_16 : b2_2 ≠ b5_16 := Nat.ne_of_lt (Nat.lt_of_lt_of_le own_b2_2.lt (hg.lo _ _ hb5))
   have ne_b3_4_b5_16 : b3_4 ≠ b5_16 := Nat.ne_of_lt (Nat.lt_of_lt_of_le own_b3_4.lt (hg.lo _ _ hb5))
   have own_b5_16 : Own W16 b5_16 [(.int .u8 (0)), (.int .i64 (0)), (.string (⟨#[]⟩)), (.slice none 0 0), (.slice none 0 0)] 33 := own_b5_16
   replace e2 := (hR 2 rfl).trans e2
   replace e3 := (hR 3 rfl).trans e3
   replace e17 := (hR 17 rfl).trans e17
   replace e18 := (hR 18 rfl).trans e18
   replace e19 := (hR 19 rfl).trans e19
   have nb_b5_16_ar9 : b5_16 ∉ blks hd4_10 := nb_lt A4_10.lt (hg.lo _ _ hb5)
   replace A4_10 : Arr W16 w.heap.size 33 5 (SF w (b5_16 :: (blks hd4_10 ++ (b3_4 :: (b2_2 :: []))))) (List.map V.d (x.xs.take k)) va4_10 hd4_10 := arrF_more A4_10 hk [b5_16] (in_cons (hg.lo _ _ hb5) in_nil)
   replace D_ci0 : Rd W16 (SA w S (b5_16 :: (blks hd4_10 ++ (b3_4 :: (b2_2 :: []))))) (valsD (x.xs)) (.slice ci0a (x.xs.length) ci0c) := sa_more D_ci0 hk [b5_16] (in_cons (hg.lo _ _ hb5) in_nil)
   replace D_v15_4 : Rd W16 (SF w (b5_16 :: (blks hd4_10 ++ (b3_4 :: (b2_2 :: []))))) (strsD (x.ns)) (.slice v15_4a (x.ns.length) v15_4c) := sf_more D_v15_4 hk [b5_16] (in_cons (hg.lo _ _ hb5) in_nil)
   obtain ⟨v22_16, ev⟩ : ∃ v, sl a16 22 = v := ⟨_, rfl⟩
   rw [ev] at e22
   have D_v22_16 : Rd W16 (SA w S (b5_16 :: (blks hd4_10 ++ (b3_4 :: (b2_2 :: []))))) (V.d (x.xs[k]'hlt)) v22_16 := sa_end e22 hk [b5_16] (in_cons ⟨_, hb5⟩ in_nil)
   replace e22 := ev; clear ev
   obtain ⟨cn22_16a, cn22_16c, ci22_16a, ci22_16c, ev, ht_v22_16, D_cn22_16, D_ci22_16⟩ := rdV_out D_v22_16
   subst ev; clear D_v22_16
   replace own_b2_2 := own_b2_2.ext hk
   replace own_b3_4 := own_b3_4.ext hk
   replace kw := kw.x hk
   clear hR hk hg hP hb5
   refine tail_store (b := b5_16) (o := 0) (v := (.agg #[(.int .u8 ((x.xs[k]'hlt).k)), (.int .i64 ((x.xs[k]'hlt).n)), (.string ((x.xs[k]'hlt).t)), (.slice cn22_16a (((x.xs[k]'hlt).ns).length) cn22_16c), (.slice ci22_16a (((x.xs[k]'hlt).xs).length) ci22_16c)])) e5 e22 sz33 rfl own_b5_16 (lbr rfl) (all_cons rfl (all_cons rfl (all_cons rfl (all_cons rfl (all_cons rfl all_nil))))) (fun W17 hs own_b5_16 => ?_)
   have own_b5_16 : Own W17 b5_16 [(.int .u8 ((x.xs[k]'hlt).k)), (.int .i64 ((x.xs[k]'hlt).n)), (.string ((x.xs[k]'hlt).t)), (.slice cn22_16a (((x.xs[k]'hlt).ns).length) cn22_16c), (.slice ci22_16a (((x.xs[k]'hlt).xs).length) ci22_16c)] 33 := own_b5_16
   replace own_b2_2 := own_store own_b2_2 hs ne_b2_2_b5_16
   replace own_b3_4 := own_store own_b3_4 hs ne_b3_4_b5_16
   replace D_ci0 := sa_store D_ci0 hs (by simp)
   replace D_v15_4 := sf_store D_v15_4 hs (by simp)
   replace D_cn22_16 := sa_store D_cn22_16 hs (by simp)
   replace D_ci22_16 := sa_store D_ci22_16 hs (by simp)
   replace A4_10 := arrF_store A4_10 hs (by simp) nb_b5_16_ar9
   replace kw := keeps_store kw hs lo_b5_16
   clear hs
   refine tail_nil (hK15 _ _ ?_)
   refine wp_reg (fun k => k ∉ blks hd4_10) (Ψ := fun W => Arr W w.heap.size 33 5 (SF w (b5_16 :: (blks hd4_10 ++ (b3_4 :: (b2_2 :: []))))) (List.map V.d (x.xs.take k)) va4_10 hd4_10) mixed y16 zz16 (fun W W' k h => h.ext k) A4_10 ?_
   refine .i (fo 4 (hbs rfl e3) Try.underlying33 rfl sz31 rfl) ?_
   refine .i (lo1 (hlc rfl) own_b3_4 nb_b3_4_ar9_10 agg31 sz31 rfl) ?_
   refine .i (v := (.agg #[(.int .u8 ((x.xs[k]'hlt).k)), (.int .i64 ((x.xs[k]'hlt).n)), (.string ((x.xs[k]'hlt).t)), (.slice cn22_16a (((x.xs[k]'hlt).ns).length) cn22_16c), (.slice ci22_16a (((x.xs[k]'hlt).xs).length) ci22_16c)])) (loA (hbs rfl e5) own_b5_16 nb_b5_16_ar9 agg33 sz33 rfl rfl) ?_
   refine .op (φ := IsD (Fr W17) (V.d ((x.xs[k]'hlt)))) (st_d (sub_frnb (fun b hb => A4_10.lt b hb))) (sp_call1 (φ1 := IsD (SA w S (b5_16 :: (blks hd4_10 ++ (b3_4 :: (b2_2 :: []))))) (V.d ((x.xs[k]'hlt)))) ent138 ((hlc rfl).dat (rdV_in (x := (x.xs[k]'hlt)) ht_v22_16 D_cn22_16 D_ci22_16 : Rd W17 (SA w S (b5_16 :: (blks hd4_10 ++ (b3_4 :: (b2_2 :: []))))) (V.d ((x.xs[k]'hlt))) _) (sub_nb (fun b hb => List.mem_cons_of_mem _ (List.mem_append_left _ hb)))) (fun g u1 W hk hgk h1 => (ih ((x.xs[k]'hlt)) (by omega) (by omega) W _ _ h1).mono (ret_fr hk hgk))) ?_
   refine .op (φ := IsD (SF w (b5_16 :: (blks hd4_10 ++ (b3_4 :: (b2_2 :: []))))) (valsD ([(x.xs[k]'hlt)]))) (st_d (sub_nbF (fun b hb => List.mem_cons_of_mem _ (List.mem_append_left _ hb)))) (sp_bsl (ds := [V.d ((x.xs[k]'hlt))]) Try.underlying31 sz33 z33 (lbr rfl) (lbr rfl) ⟨rfl, ((hlc rfl).sup (fr_sf kw (in_cons own_b5_16.lt (in_app A4_10.lt (in_cons own_b3_4.lt (in_cons own_b2_2.lt in_nil)))))), trivial⟩ rfl (by intro e he; simp at he; rcases he with rfl <;> exact width_V _) (fr_sf kw (in_cons own_b5_16.lt (in_app A4_10.lt (in_cons own_b3_4.lt (in_cons own_b2_2.lt in_nil)))))) ?_
   refine .appB (ds := List.map V.d (x.xs.take k)) (es := [V.d ((x.xs[k]'hlt))]) (X := SF w (b5_16 :: (blks hd4_10 ++ (b3_4 :: (b2_2 :: []))))) Try.underlying31 inf33 (lbr rfl) (hlc rfl) (hlc rfl) (sub_nbF (fun b hb => List.mem_cons_of_mem _ (List.mem_append_left _ hb))) (by simp [maxLen]; omega) (by simp; omega) kw.size ?_
   refine .i (fo 4 (hbs rfl e3) Try.underlying33 rfl sz31 rfl) ?_
   refine .done ⟨by kernel_rfl, fun a18 g W18 y18 zz18 hk hg hV hR hP => ?_⟩
   obtain ⟨e29, e28, -, -, -, -, -, -⟩ := hV
   replace e2 := (hR 2 rfl).trans e2
   replace e3 := (hR 3 rfl).trans e3
   replace e17 := (hR 17 rfl).trans e17
   replace e18 := (hR 18 rfl).trans e18
   replace e19 := (hR 19 rfl).trans e19
   obtain ⟨v28_18, ev⟩ : ∃ v, sl a18 28 = v := ⟨_, rfl⟩
   rw [ev] at e28
   obtain ⟨hd28_18, A_28_18, hf28_18⟩ := e28
   have e28 := ev; clear ev
   obtain ⟨v28_18a, v28_18n, v28_18c, ev⟩ := arr_sl A_28_18; subst ev
   replace A_28_18 := arrF_new (M' := (b5_16 :: (blks hd28_18 ++ (b3_4 :: (b2_2 :: []))))) A_28_18 (rep_cons (rep_app (rep_q fun _ h => h) (rep_cons (rep_cons rep_nil))))
   replace A_28_18 : Arr W18 w.heap.size 33 5 (SF w (b5_16 :: (blks hd28_18 ++ (b3_4 :: (b2_2 :: []))))) (List.map V.d ((x.xs.take k) ++ [(x.xs[k]'hlt)])) (.slice v28_18a v28_18n v28_18c) hd28_18 := by first | exact A_28_18 | (rw [List.map_append]; exact A_28_18)
   have nb_b2_2_18 : b2_2 ∉ blks hd28_18 := nb_new nb_b2_2_ar9_10 own_b2_2.lt hf28_18
   have nb_b3_4_18 : b3_4 ∉ blks hd28_18 := nb_new nb_b3_4_ar9_10 own_b3_4.lt hf28_18
   have nb_b5_16_18 : b5_16 ∉ blks hd28_18 := nb_new nb_b5_16_ar9 own_b5_16.lt hf28_18
   replace D_ci0 := sa_app (M' := (b5_16 :: (blks hd28_18 ++ (b3_4 :: (b2_2 :: []))))) D_ci0 hk (fun b hb => List.mem_cons_of_mem _ (List.mem_append_left _ hb)) (rep_cons (rep_app hf28_18 (rep_cons (rep_cons rep_nil))))
   replace D_v15_4 := sf_app (M' := (b5_16 :: (blks hd28_18 ++ (b3_4 :: (b2_2 :: []))))) D_v15_4 hk (fun b hb => List.mem_cons_of_mem _ (List.mem_append_left _ hb)) (rep_cons (rep_app hf28_18 (rep_cons (rep_cons rep_nil))))
   replace D_cn22_16 := sa_app (M' := (b5_16 :: (blks hd28_18 ++ (b3_4 :: (b2_2 :: []))))) D_cn22_16 hk (fun b hb => List.mem_cons_of_mem _ (List.mem_append_left _ hb)) (rep_cons (rep_app hf28_18 (rep_cons (rep_cons rep_nil))))
   replace D_ci22_16 := sa_app (M' := (b5_16 :: (blks hd28_18 ++ (b3_4 :: (b2_2 :: []))))) D_ci22_16 hk (fun b hb => List.mem_cons_of_mem _ (List.mem_append_left _ hb)) (rep_cons (rep_app hf28_18 (rep_cons (rep_cons rep_nil))))
   replace own_b2_2 := own_app own_b2_2 hk nb_b2_2_ar9_10
   replace own_b3_4 := own_app own_b3_4 hk nb_b3_4_ar9_10
   replace own_b5_16 := own_app own_b5_16 hk nb_b5_16_ar9
   replace kw := keeps_app kw hk A4_10.ge
   have e29 : sl a18 29 = (.pointer (some ⟨b3_4, 4, none⟩)) := e29
   clear hR hk hg hP hf28_18 A4_10
   refine tail_store (b := b3_4) (o := 4) (v := (.slice v28_18a v28_18n v28_18c)) e29 e28 sz31 rfl own_b3_4 (lbr rfl) (all_cons rfl all_nil) (fun W19 hs own_b3_4 => ?_)
   have own_b3_4 : Own W19 b3_4 [(.int .u8 (x.k)), (.int .i64 (x.n)), (.string (x.t)), (.slice v15_4a (x.ns.length) v15_4c), (.slice v28_18a v28_18n v28_18c)] 33 := own_b3_4
   replace own_b2_2 := own_store own_b2_2 hs ne_b2_2_b3_4
   replace own_b5_16 := own_store own_b5_16 hs ne_b3_4_b5_16.symm
   replace D_ci0 := sa_store D_ci0 hs (by simp)
   replace D_v15_4 := sf_store D_v15_4 hs (by simp)
   replace D_cn22_16 := sa_store D_cn22_16 hs (by simp)
   replace D_ci22_16 := sa_store D_ci22_16 hs (by simp)
   replace A_28_18 := arrF_store A_28_18 hs (by simp) nb_b3_4_18
   replace kw := keeps_store kw hs lo_b3_4
   clear hs
   refine tail_nil (hK14 _ _ ?_)
   refine rg mixed y18 zz18 ?_
   refine .i (sp_add (hbs rfl e19) Has.cst (i64_in (by omega))) ?_
   refine .i (sp_move (hlc rfl)) ?_
   refine .done ⟨by kernel_rfl, fun a20 g W20 y20 zz20 hk hg hV hR hP => ?_⟩
   obtain ⟨e19, -, -⟩ := hV
   replace e2 := (hR 2 rfl).trans e2
   replace e3 := (hR 3 rfl).trans e3
   replace e17 := (hR 17 rfl).trans e17
   replace e18 := (hR 18 rfl).trans e18
   replace A_28_18 := A_28_18.ext hk
   replace D_ci0 := D_ci0.ext hk
   replace D_v15_4 := D_v15_4.ext hk
   replace e19 := e19.q
   replace own_b2_2 := own_b2_2.ext hk
   replace own_b3_4 := own_b3_4.ext hk
   replace own_b5_16 := own_b5_16.ext hk
   replace kw := kw.x hk
   clear hR hk hg hP
   rw [show (x.xs.take k) ++ [(x.xs[k]'hlt)] = x.xs.take (k + 1) by rw [List.take_succ_eq_append_getElem hlt]] at A_28_18
   exact tail_nil ⟨hlt, (.slice v28_18a v28_18n v28_18c), hd28_18, y20, zz20, kw, e2, e3, e17, e18, (e19.trans (congrArg (Value.int .i64) (by simp))), own_b2_2, own_b3_4, (sa_less D_ci0 (ls_skip (ls_keepA (ls_keep (ls_keep ls_nil))))), (sf_less D_v15_4 (ls_skip (ls_keepA (ls_keep (ls_keep ls_nil))))), (arrF_less A_28_18 (ls_skip (ls_keepA (ls_keep (ls_keep ls_nil))))), nb_b2_2_18, nb_b3_4_18⟩
  ·
   have hge0 : ¬ k < x.xs.length := by simpa using hc
   have hge : k = x.xs.length := by omega
   rw [show x.xs.take k = x.xs by rw [hge, List.take_length]] at A4_10
   have D_va4_10 : Rd W12 (SF w [b3_4, b2_2]) (valsD (x.xs)) va4_10 := arrF_rd A4_10 (ls_skipA (ls_keep (ls_keep ls_nil))) (nin_cons nb_b3_4_ar9_10 (nin_cons nb_b2_2_ar9_10 nin_nil))
   obtain ⟨va4_10a, va4_10c, ev, D2⟩ := rdVs_out D_va4_10
   subst ev; replace D_va4_10 := D2; clear D2
   replace D_ci0 := sa_less (M' := [b3_4, b2_2]) D_ci0 (ls_skipA (ls_keep (ls_keep ls_nil)))
   replace D_v15_4 := sf_less (M' := [b3_4, b2_2]) D_v15_4 (ls_skipA (ls_keep (ls_keep ls_nil)))
   refine wp_exit (hK6 _ _ ?_)
   refine wp_seq_k fun K21 hK21 => ?_
   refine rg mixed y12 zz12 ?_
   refine .i (v := (.agg #[(.int .u8 (x.k)), (.int .i64 (x.n)), (.string (x.t)), (.slice v15_4a (x.ns.length) v15_4c), (.slice va4_10a (x.xs.length) va4_10c)])) (loA (hbs rfl e3) own_b3_4 trivial agg33 sz33 rfl rfl) ?_
   refine .done ⟨by kernel_rfl, fun a22 g W22 y22 zz22 hk hg hV hR hP => ?_⟩
   obtain ⟨e31, -⟩ := hV
   replace e2 := (hR 2 rfl).trans e2
   replace D_ci0 := D_ci0.ext hk
   replace D_v15_4 := D_v15_4.ext hk
   replace D_va4_10 := D_va4_10.ext hk
   replace e31 := e31.q
   replace own_b2_2 := own_b2_2.ext hk
   replace own_b3_4 := own_b3_4.ext hk
   replace kw := kw.x hk
   clear hR hk hg hP
   refine tail_store (b := b2_2) (o := 0) (v := (.agg #[(.int .u8 (x.k)), (.int .i64 (x.n)), (.string (x.t)), (.slice v15_4a (x.ns.length) v15_4c), (.slice va4_10a (x.xs.length) va4_10c)])) e2 e31 sz33 rfl own_b2_2 (lbr rfl) (all_cons rfl (all_cons rfl (all_cons rfl (all_cons rfl (all_cons rfl all_nil))))) (fun W23 hs own_b2_2 => ?_)
   have own_b2_2 : Own W23 b2_2 [(.int .u8 (x.k)), (.int .i64 (x.n)), (.string (x.t)), (.slice v15_4a (x.ns.length) v15_4c), (.slice va4_10a (x.xs.length) va4_10c)] 33 := own_b2_2
   replace own_b3_4 := own_store own_b3_4 hs ne_b2_2_b3_4.symm
   replace D_ci0 := sa_store D_ci0 hs (by simp)
   replace D_v15_4 := sf_store D_v15_4 hs (by simp)
   replace D_va4_10 := sf_store D_va4_10 hs (by simp)
   replace kw := keeps_store kw hs lo_b2_2
   clear hs
   refine tail_nil (hK21 _ _ ?_)
   refine wp_ret ?_
   refine (show bodyPost Try.prog Try.f138 _ .ret _ _ from retC (v := (.agg #[(.int .u8 (x.k)), (.int .i64 (x.n)), (.string (x.t)), (.slice v15_4a (x.ns.length) v15_4c), (.slice va4_10a (x.xs.length) va4_10c)])) rfl zz22 e2 own_b2_2 agg33 sz33 rfl (fun h => by cases h) rfl ⟨_, rfl, kw, ?_⟩)
   exact sf_fr (rdV_in (x := x) ht0 D_v15_4 D_va4_10 : Rd W23 (SF w [b3_4, b2_2]) (V.d (x)) _)

set_option maxRecDepth 100000 in
theorem Copy_ok (x : V) (hx : x.wt ≤ 1073741824) (w : World) (S : BSet) (v : Value) (hS : ∀ b o, S b o → Cln o) (hv : Rd w S x.d v) : Calls Try.prog 79 #[v] w (Ret w fun u W => Rd W (Fr w) x.d u) := by
  have hwx := wt_eq x
  have hwl := wts_len x.xs
  have hwn := wtN_len x.ns
  obtain ⟨cn0a, cn0c, ci0a, ci0c, ev, ht0, D_cn0, D_ci0⟩ := rdV_out (rd_arg hv)
  subst ev
  refine enter Try.func79 rfl Try.ntmps79 (lbr rfl) fun a0 y0 zz0 harg => ?_
  have e0 : sl a0 0 = (.agg #[(.int .u8 (x.k)), (.int .i64 (x.n)), (.string (x.t)), (.slice cn0a (x.ns.length) cn0c), (.slice ci0a (x.xs.length) ci0c)]) := harg 0 (lbr rfl)
  have kw := Keeps.refl All w
  clear harg
  refine wp_seq_k fun K1 hK1 => ?_
  refine rg mixed y0 zz0 ?_
  refine .boxOp (v := (.agg #[(.int .u8 (x.k)), (.int .i64 (x.n)), (.string (x.t)), (.slice cn0a (x.ns.length) cn0c), (.slice ci0a (x.xs.length) ci0c)])) (hbs rfl e0) ?_
  refine .alloc z33 ?_
  refine .done ⟨by kernel_rfl, fun a2 g W2 y2 zz2 hk hg hV hR hP => ?_⟩
  obtain ⟨⟨b2_2, e2, hb2, own_b2_2⟩, ⟨b1_2, e1, hb1, own_b1_2⟩, -⟩ := hV
  have lo_b2_2 : w.heap.size ≤ b2_2 := Nat.le_trans kw.size (hg.lo _ _ hb2)
  have own_b2_2 : Own W2 b2_2 [(.int .u8 (0)), (.int .i64 (0)), (.string (⟨#[]⟩)), (.slice none 0 0), (.slice none 0 0)] 33 := own_b2_2
  have lo_b1_2 : w.heap.size ≤ b1_2 := Nat.le_trans kw.size (hg.lo _ _ hb1)
  have own_b1_2 : Own W2 b1_2 [(.int .u8 (x.k)), (.int .i64 (x.n)), (.string (x.t)), (.slice cn0a (x.ns.length) cn0c), (.slice ci0a (x.xs.length) ci0c)] 33 := own_b1_2
  have ne_b2_2_b1_2 : b2_2 ≠ b1_2 := fun h => by have := hg.inj _ _ _ hb2 (h ▸ hb1); cases this
  replace D_cn0 := sa_more D_cn0 hk [b2_2, b1_2] (in_cons (hg.lo _ _ hb2) (in_cons (hg.lo _ _ hb1) in_nil))
  replace D_ci0 := sa_more D_ci0 hk [b2_2, b1_2] (in_cons (hg.lo _ _ hb2) (in_cons (hg.lo _ _ hb1) in_nil))
  replace kw := kw.x hk
  clear hR hk hg hP hb2 hb1
  refine tail_nil (hK1 _ _ ?_)
  refine wp_seq_k fun K3 hK3 => ?_
  refine rg mixed y2 zz2 ?_
  refine .i (fo 0 (hbs rfl e1) Try.underlying33 rfl sz5 rfl) ?_
  refine .i (lo1 (hlc rfl) own_b1_2 trivial agg5 sz5 rfl) ?_
  refine .i (fo 1 (hbs rfl e1) Try.underlying33 rfl sz2 rfl) ?_
  refine .i (lo1 (hlc rfl) own_b1_2 trivial agg2 sz2 rfl) ?_
  refine .i (fo 2 (hbs rfl e1) Try.underlying33 rfl sz9 rfl) ?_
  refine .i (lo1 (hlc rfl) own_b1_2 trivial agg9 sz9 rfl) ?_
  refine .i (fo 3 (hbs rfl e1) Try.underlying33 rfl sz23 rfl) ?_
  refine .i (lo1 (hlc rfl) own_b1_2 trivial agg23 sz23 rfl) ?_
  refine .da (X := Fr W2) (e := strsD (x.ns)) (sp_call1 (φ1 := IsD (SA w S [b2_2, b1_2]) (strsD (x.ns))) ent136 ((hlc rfl).dat D_cn0 sub_all) (fun g u1 W hk hgk h1 => (clone_ok (x.ns) (by omega) W _ _ h1).mono (ret_fr hk hgk))) ?_
  refine .op (φ := IsHole (fun v => .agg #[(.int .u8 (x.k)), (.int .i64 (x.n)), (.string (x.t)), v, (.slice none 0 0)]) (IsD (Fr W2) (strsD (x.ns)))) (st_hole (st_d sub_all)) (sp_build1 (vs := [(0, some (.int .u8 (x.k))), (1, some (.int .i64 (x.n))), (2, some (.string (x.t))), (3, none)]) (cells := fun v => #[(.int .u8 (x.k)), (.int .i64 (x.n)), (.string (x.t)), v, (.slice none 0 0)]) Try.underlying33 z33 (pl33 Try.underlying33) (hlc rfl) (fun _ => by simp [Op.operands]) sl_strs ⟨rfl, (hlc rfl), ⟨rfl, (hlc rfl), ⟨rfl, (hlc rfl), ⟨rfl, rfl, trivial⟩⟩⟩⟩ (fun _ _ _ => rfl)) ?_
  refine .alloc z33 ?_
  refine .done ⟨by kernel_rfl, fun a4 g W4 y4 zz4 hk hg hV hR hP => ?_⟩
  obtain ⟨⟨b3_4, e3, hb3, own_b3_4⟩, e15, -, -, -, -, -, -, -, -, -, -⟩ := hV
  have lo_b3_4 : w.heap.size ≤ b3_4 := Nat.le_trans kw.size (hg.lo _ _ hb3)
  have ne_b2_2_b3_4 : b2_2 ≠ b3_4 := Nat.ne_of_lt (Nat.lt_of_lt_of_le own_b2_2.lt (hg.lo _ _ hb3))
  have ne_b1_2_b3_4 : b1_2 ≠ b3_4 := Nat.ne_of_lt (Nat.lt_of_lt_of_le own_b1_2.lt (hg.lo _ _ hb3))
  have own_b3_4 : Own W4 b3_4 [(.int .u8 (0)), (.int .i64 (0)), (.string (⟨#[]⟩)), (.slice none 0 0), (.slice none 0 0)] 33 := own_b3_4
  replace e2 := (hR 2 rfl).trans e2
  replace e1 := (hR 1 rfl).trans e1
  replace D_cn0 := sa_more D_cn0 hk [b3_4] (in_cons (hg.lo _ _ hb3) in_nil)
  replace D_ci0 := sa_more D_ci0 hk [b3_4] (in_cons (hg.lo _ _ hb3) in_nil)
  obtain ⟨v15_4a, v15_4n, v15_4c, ev, D_v15_4⟩ := e15
  replace D_v15_4 : Rd W4 (SF w [b3_4, b2_2, b1_2]) (strsD (x.ns)) _ := fr_end (M := [b2_2, b1_2]) D_v15_4 kw [b3_4] (in_cons ⟨_, hb3⟩ in_nil) (in_cons own_b2_2.lt (in_cons own_b1_2.lt in_nil))
  obtain ⟨xa, xc, ev2, D2⟩ := rdS_out D_v15_4
  injection ev2 with h1 h2 h3; subst h1 h2 h3; clear D2
  have e15 : sl a4 15 = (.agg #[(.int .u8 (x.k)), (.int .i64 (x.n)), (.string (x.t)), (.slice v15_4a (x.ns.length) v15_4c), (.slice none 0 0)]) := ev; clear ev
  replace own_b2_2 := own_b2_2.ext hk
  replace own_b1_2 := own_b1_2.ext hk
  replace kw := kw.x hk
  clear hR hk hg hP hb3
  refine tail_store (b := b3_4) (o := 0) (v := (.agg #[(.int .u8 (x.k)), (.int .i64 (x.n)), (.string (x.t)), (.slice v15_4a (x.ns.length) v15_4c), (.slice none 0 0)])) e3 e15 sz33 rfl own_b3_4 (lbr rfl) (all_cons rfl (all_cons rfl (all_cons rfl (all_cons rfl (all_cons rfl all_nil))))) (fun W5 hs own_b3_4 => ?_)
  have own_b3_4 : Own W5 b3_4 [(.int .u8 (x.k)), (.int .i64 (x.n)), (.string (x.t)), (.slice v15_4a (x.ns.length) v15_4c), (.slice none 0 0)] 33 := own_b3_4
  replace own_b2_2 := own_store own_b2_2 hs ne_b2_2_b3_4
  replace own_b1_2 := own_store own_b1_2 hs ne_b1_2_b3_4
  replace D_cn0 := sa_store D_cn0 hs (by simp)
  replace D_ci0 := sa_store D_ci0 hs (by simp)
  replace D_v15_4 := sf_store D_v15_4 hs (by simp)
  replace kw := keeps_store kw hs lo_b3_4
  clear hs
  refine tail_nil (hK3 _ _ ?_)
  refine wp_seq_k fun K6 hK6 => ?_
  refine wp_seq_k fun K7 hK7 => ?_
  refine rg mixed y4 zz4 ?_
  refine .i (fo 4 (hbs rfl e1) Try.underlying33 rfl sz31 rfl) ?_
  refine .i (lo1 (hlc rfl) own_b1_2 trivial agg31 sz31 rfl) ?_
  refine .i (sp_lenVs Try.underlying31 ((hlc rfl).dat D_ci0 sub_all)) ?_
  refine .i (sp_move Has.cst) ?_
  refine .done ⟨by kernel_rfl, fun a8 g W8 y8 zz8 hk hg hV hR hP => ?_⟩
  obtain ⟨e19, e18, e17, -, -⟩ := hV
  replace e2 := (hR 2 rfl).trans e2
  replace e3 := (hR 3 rfl).trans e3
  replace D_cn0 := D_cn0.ext hk
  replace D_ci0 := D_ci0.ext hk
  replace D_v15_4 := D_v15_4.ext hk
  have e17 : sl a8 17 = (.slice ci0a (x.xs.length) ci0c) := e17
  have e18 : sl a8 18 = (.int .i64 (x.xs.length)) := e18
  have e19 : sl a8 19 = (.int .i64 (0)) := e19
  replace own_b2_2 := own_b2_2.ext hk
  replace own_b1_2 := own_b1_2.ext hk
  replace own_b3_4 := own_b3_4.ext hk
  replace kw := kw.x hk
  clear hR hk hg hP
  refine tail_nil (hK7 _ _ ?_)
  refine wp_block ?_
  replace D_ci0 := sa_less (M' := [b3_4, b2_2]) D_ci0 (ls_keep (ls_keep ls_nil))
  replace D_v15_4 := sf_less (M' := [b3_4, b2_2]) D_v15_4 (ls_keep (ls_keep ls_nil))
  have A_ar9 : Arr W8 w.heap.size 33 5 (SF w (blks none ++ (b3_4 :: (b2_2 :: [])))) (List.map V.d ([])) (.slice none 0 0) none := arr_nil _ _ _ _ _
  replace D_ci0 : Rd W8 (SA w S (blks none ++ (b3_4 :: (b2_2 :: [])))) (valsD (x.xs)) (.slice ci0a (x.xs.length) ci0c) := D_ci0
  replace D_v15_4 : Rd W8 (SF w (blks none ++ (b3_4 :: (b2_2 :: [])))) (strsD (x.ns)) (.slice v15_4a (x.ns.length) v15_4c) := D_v15_4
  refine wp_for (x.xs.length) (fun k a W => ∃ (va4_10 : Value), ∃ (hd4_10 : Option Nat), a.tmps.size = 36 ∧ a.defers = [] ∧ Keeps All w W ∧ sl a 2 = (.pointer (some ⟨b2_2, 0, none⟩)) ∧ sl a 3 = (.pointer (some ⟨b3_4, 0, none⟩)) ∧ sl a 17 = (.slice ci0a (x.xs.length) ci0c) ∧ sl a 18 = (.int .i64 (x.xs.length)) ∧ sl a 19 = (.int .i64 ((k : Nat))) ∧ Own W b2_2 [(.int .u8 (0)), (.int .i64 (0)), (.string (⟨#[]⟩)), (.slice none 0 0), (.slice none 0 0)] 33 ∧ Own W b3_4 [(.int .u8 (x.k)), (.int .i64 (x.n)), (.string (x.t)), (.slice v15_4a (x.ns.length) v15_4c), va4_10] 33 ∧ Rd W (SA w S (blks hd4_10 ++ (b3_4 :: (b2_2 :: [])))) (valsD (x.xs)) (.slice ci0a (x.xs.length) ci0c) ∧ Rd W (SF w (blks hd4_10 ++ (b3_4 :: (b2_2 :: [])))) (strsD (x.ns)) (.slice v15_4a (x.ns.length) v15_4c) ∧ Arr W w.heap.size 33 5 (SF w (blks hd4_10 ++ (b3_4 :: (b2_2 :: [])))) (List.map V.d (x.xs.take k)) va4_10 hd4_10 ∧ b2_2 ∉ blks hd4_10 ∧ b3_4 ∉ blks hd4_10) ⟨(.slice none 0 0), none, y8, zz8, kw, e2, e3, e17, e18, (e19.trans (congrArg (Value.int .i64) (rfl))), own_b2_2, own_b3_4, D_ci0, D_v15_4, A_ar9, nb_none, nb_none⟩ ?_
  clear kw e2 e3 e17 e18 e19 own_b2_2 own_b3_4 D_ci0 D_v15_4 A_ar9
  rintro k a10 W10 hkk ⟨va4_10, hd4_10, y10, zz10, kw, e2, e3, e17, e18, e19, own_b2_2, own_b3_4, D_ci0, D_v15_4, A4_10, nb_b2_2_ar9_10, nb_b3_4_ar9_10⟩
  refine wp_seq_k fun K11 hK11 => ?_
  refine rg mixed y10 zz10 ?_
  refine .i (sp_lss (hbs rfl e19) (hbs rfl e18)) ?_
  refine .done ⟨by kernel_rfl, fun a12 g W12 y12 zz12 hk hg hV hR hP => ?_⟩
  obtain ⟨e20, -⟩ := hV
  replace e2 := (hR 2 rfl).trans e2
  replace e3 := (hR 3 rfl).trans e3
  replace e17 := (hR 17 rfl).trans e17
  replace e18 := (hR 18 rfl).trans e18
  replace e19 := (hR 19 rfl).trans e19
  replace A4_10 := A4_10.ext hk
  replace D_ci0 := D_ci0.ext hk
  replace D_v15_4 := D_v15_4.ext hk
  replace e20 := e20.q
  replace own_b2_2 := own_b2_2.ext hk
  replace own_b3_4 := own_b3_4.ext hk
  replace kw := kw.x hk
  clear hR hk hg hP
  refine tail_nil (hK11 _ _ ?_)
  refine wp_seq_k fun K13 hK13 => ?_
  refine wp_cond_split e20 (fun hc => ?_) (fun hc => ?_)
  ·
   have hlt : k < x.xs.length := by simpa using hc
   have hwm := wts_mem hlt
   have hwc := cnts_wts (x.xs[k]).xs
   have hwe := wt_eq x.xs[k]
   refine wp_skip (hK13 _ _ ?_)
   refine wp_seq_k fun K14 hK14 => ?_
   refine wp_block ?_
   refine wp_seq_k fun K15 hK15 => ?_
   refine rg mixed y12 zz12 ?_
   refine .rf (sp_indexV (i := k) ((hbs rfl e17).dat D_ci0 sub_all) (hbs rfl e19) Try.underlying31 sz33 rfl hlt) ?_
   refine .da (sp_loadV (hlc rfl) agg33 sz33) ?_
   refine .alloc z33 ?_
   refine .done ⟨by kernel_rfl, fun a16 g W16 y16 zz16 hk hg hV hR hP => ?_⟩
   obtain ⟨⟨b5_16, e5, hb5, own_b5_16⟩, e22, -, -⟩ := hV
   have lo_b5_16 : w.heap.size ≤ b5_16 := Nat.le_trans kw.size (hg.lo _ _ hb5)
   have ne_b2_2_b5_16 : b2_2 ≠ b5_16 := Nat.ne_of_lt (Nat.lt_of_lt_of_le own_b2_2.lt (hg.lo _ _ hb5))
   have ne_b3_4_b5_16 : b3_4 ≠ b5_16 := Nat.ne_of_lt (Nat.lt_of_lt_of_le own_b3_4.lt (hg.lo _ _ hb5))
   have own_b5_16 : Own W16 b5_16 [(.int .u8 (0)), (.int .i64 (0)), (.string (⟨#[]⟩)), (.slice none 0 0), (.slice none 0 0)] 33 := own_b5_16
   replace e2 := (hR 2 rfl).trans e2
   replace e3 := (hR 3 rfl).trans e3
   replace e17 := (hR 17 rfl).trans e17
   replace e18 := (hR 18 rfl).trans e18
   replace e19 := (hR 19 rfl).trans e19
   have nb_b5_16_ar9 : b5_16 ∉ blks hd4_10 := nb_lt A4_10.lt (hg.lo _ _ hb5)
   replace A4_10 : Arr W16 w.heap.size 33 5 (SF w (b5_16 :: (blks hd4_10 ++ (b3_4 :: (b2_2 :: []))))) (List.map V.d (x.xs.take k)) va4_10 hd4_10 := arrF_more A4_10 hk [b5_16] (in_cons (hg.lo _ _ hb5) in_nil)
   replace D_ci0 : Rd W16 (SA w S (b5_16 :: (blks hd4_10 ++ (b3_4 :: (b2_2 :: []))))) (valsD (x.xs)) (.slice ci0a (x.xs.length) ci0c) := sa_more D_ci0 hk [b5_16] (in_cons (hg.lo _ _ hb5) in_nil)
   replace D_v15_4 : Rd W16 (SF w (b5_16 :: (blks hd4_10 ++ (b3_4 :: (b2_2 :: []))))) (strsD (x.ns)) (.slice v15_4a (x.ns.length) v15_4c) := sf_more D_v15_4 hk [b5_16] (in_cons (hg.lo _ _ hb5) in_nil)
   obtain ⟨v22_16, ev⟩ : ∃ v, sl a16 22 = v := ⟨_, rfl⟩
   rw [ev] at e22
   have D_v22_16 : Rd W16 (SA w S (b5_16 :: (blks hd4_10 ++ (b3_4 :: (b2_2 :: []))))) (V.d (x.xs[k]'hlt)) v22_16 := sa_end e22 hk [b5_16] (in_cons ⟨_, hb5⟩ in_nil)
   replace e22 := ev; clear ev
   obtain ⟨cn22_16a, cn22_16c, ci22_16a, ci22_16c, ev, ht_v22_16, D_cn22_16, D_ci22_16⟩ := rdV_out D_v22_16
   subst ev; clear D_v22_16
   replace own_b2_2 := own_b2_2.ext hk
   replace own_b3_4 := own_b3_4.ext hk
   replace kw := kw.x hk
   clear hR hk hg hP hb5
   refine tail_store (b := b5_16) (o := 0) (v := (.agg #[(.int .u8 ((x.xs[k]'hlt).k)), (.int .i64 ((x.xs[k]'hlt).n)), (.string ((x.xs[k]'hlt).t)), (.slice cn22_16a (((x.xs[k]'hlt).ns).length) cn22_16c), (.slice ci22_16a (((x.xs[k]'hlt).xs).length) ci22_16c)])) e5 e22 sz33 rfl own_b5_16 (lbr rfl) (all_cons rfl (all_cons rfl (all_cons rfl (all_cons rfl (all_cons rfl all_nil))))) (fun W17 hs own_b5_16 => ?_)
   have own_b5_16 : Own W17 b5_16 [(.int .u8 ((x.xs[k]'hlt).k)), (.int .i64 ((x.xs[k]'hlt).n)), (.string ((x.xs[k]'hlt).t)), (.slice cn22_16a (((x.xs[k]'hlt).ns).length) cn22_16c), (.slice ci22_16a (((x.xs[k]'hlt).xs).length) ci22_16c)] 33 := own_b5_16
   replace own_b2_2 := own_store own_b2_2 hs ne_b2_2_b5_16
   replace own_b3_4 := own_store own_b3_4 hs ne_b3_4_b5_16
   replace D_ci0 := sa_store D_ci0 hs (by simp)
   replace D_v15_4 := sf_store D_v15_4 hs (by simp)
   replace D_cn22_16 := sa_store D_cn22_16 hs (by simp)
   replace D_ci22_16 := sa_store D_ci22_16 hs (by simp)
   replace A4_10 := arrF_store A4_10 hs (by simp) nb_b5_16_ar9
   replace kw := keeps_store kw hs lo_b5_16
   clear hs
   refine tail_nil (hK15 _ _ ?_)
   refine wp_seq_k fun K18 hK18 => ?_
   refine wp_seq_k fun K19 hK19 => ?_
   refine rg mixed y16 zz16 ?_
   refine .i (fo 4 (hbs rfl e5) Try.underlying33 rfl sz31 rfl) ?_
   refine .i (lo1 (hlc rfl) own_b5_16 trivial agg31 sz31 rfl) ?_
   refine .i (v := (.bool (false))) (sp_call4 (φ1 := IsD (SA w S (b5_16 :: (blks hd4_10 ++ (b3_4 :: (b2_2 :: []))))) (valsD ((x.xs[k]'hlt).xs))) (φ2 := Is (.int .i64 (1))) (φ3 := Is (.pointer none)) (φ4 := Is (.bool (false))) ent137 ((hlc rfl).dat D_ci22_16 sub_all) Has.cst Has.cst Has.cst (fun g u1 u2 u3 u4 W hk hgk h1 h2 h3 h4 => by have h2 : u2 = _ := h2; subst u2; have h3 : u3 = _ := h3; subst u3; have h4 : u4 = _ := h4; subst u4; exact endless_all _ ((x.xs[k]'hlt).xs) (Nat.lt_succ_self _) (1) (by omega) (by omega) (false) _ W _ _ (fun b o h => sa_cln hS b o h.1) h1 (Or.inl rfl))) ?_
   refine .done ⟨by kernel_rfl, fun a20 g W20 y20 zz20 hk hg hV hR hP => ?_⟩
   obtain ⟨e25, -, -, -⟩ := hV
   replace e2 := (hR 2 rfl).trans e2
   replace e3 := (hR 3 rfl).trans e3
   replace e17 := (hR 17 rfl).trans e17
   replace e18 := (hR 18 rfl).trans e18
   replace e19 := (hR 19 rfl).trans e19
   replace e5 := (hR 5 rfl).trans e5
   replace A4_10 := A4_10.ext hk
   replace D_ci0 := D_ci0.ext hk
   replace D_v15_4 := D_v15_4.ext hk
   replace D_cn22_16 := D_cn22_16.ext hk
   replace D_ci22_16 := D_ci22_16.ext hk
   have e25 : sl a20 25 = (.bool (false)) := e25
   replace own_b2_2 := own_b2_2.ext hk
   replace own_b3_4 := own_b3_4.ext hk
   replace own_b5_16 := own_b5_16.ext hk
   replace kw := kw.x hk
   clear hR hk hg hP
   refine tail_nil (hK19 _ _ ?_)
   refine wp_cond_false e25 ?_
   refine wp_skip (hK18 _ _ ?_)
   refine wp_reg (fun k => k ∉ blks hd4_10) (Ψ := fun W => Arr W w.heap.size 33 5 (SF w (b5_16 :: (blks hd4_10 ++ (b3_4 :: (b2_2 :: []))))) (List.map V.d (x.xs.take k)) va4_10 hd4_10) mixed y20 zz20 (fun W W' k h => h.ext k) A4_10 ?_
   refine .i (fo 4 (hbs rfl e3) Try.underlying33 rfl sz31 rfl) ?_
   refine .i (lo1 (hlc rfl) own_b3_4 nb_b3_4_ar9_10 agg31 sz31 rfl) ?_
   refine .i (v := (.agg #[(.int .u8 ((x.xs[k]'hlt).k)), (.int .i64 ((x.xs[k]'hlt).n)), (.string ((x.xs[k]'hlt).t)), (.slice cn22_16a (((x.xs[k]'hlt).ns).length) cn22_16c), (.slice ci22_16a (((x.xs[k]'hlt).xs).length) ci22_16c)])) (loA (hbs rfl e5) own_b5_16 nb_b5_16_ar9 agg33 sz33 rfl rfl) ?_
   refine .op (φ := IsD (Fr W20) (V.d ((x.xs[k]'hlt)))) (st_d (sub_frnb (fun b hb => A4_10.lt b hb))) (sp_call1 (φ1 := IsD (SA w S (b5_16 :: (blks hd4_10 ++ (b3_4 :: (b2_2 :: []))))) (V.d ((x.xs[k]'hlt)))) ent138 ((hlc rfl).dat (rdV_in (x := (x.xs[k]'hlt)) ht_v22_16 D_cn22_16 D_ci22_16 : Rd W20 (SA w S (b5_16 :: (blks hd4_10 ++ (b3_4 :: (b2_2 :: []))))) (V.d ((x.xs[k]'hlt))) _) (sub_nb (fun b hb => List.mem_cons_of_mem _ (List.mem_append_left _ hb)))) (fun g u1 W hk hgk h1 => (duplicate_all _ ((x.xs[k]'hlt)) (Nat.le_refl _) (by omega) W _ _ h1).mono (ret_fr hk hgk))) ?_
   refine .op (φ := IsD (SF w (b5_16 :: (blks hd4_10 ++ (b3_4 :: (b2_2 :: []))))) (valsD ([(x.xs[k]'hlt)]))) (st_d (sub_nbF (fun b hb => List.mem_cons_of_mem _ (List.mem_append_left _ hb)))) (sp_bsl (ds := [V.d ((x.xs[k]'hlt))]) Try.underlying31 sz33 z33 (lbr rfl) (lbr rfl) ⟨rfl, ((hlc rfl).sup (fr_sf kw (in_cons own_b5_16.lt (in_app A4_10.lt (in_cons own_b3_4.lt (in_cons own_b2_2.lt in_nil)))))), trivial⟩ rfl (by intro e he; simp at he; rcases he with rfl <;> exact width_V _) (fr_sf kw (in_cons own_b5_16.lt (in_app A4_10.lt (in_cons own_b3_4.lt (in_cons own_b2_2.lt in_nil)))))) ?_
   refine .appB (ds := List.map V.d (x.xs.take k)) (es := [V.d ((x.xs[k]'hlt))]) (X := SF w (b5_16 :: (blks hd4_10 ++ (b3_4 :: (b2_2 :: []))))) Try.underlying31 inf33 (lbr rfl) (hlc rfl) (hlc rfl) (sub_nbF (fun b hb => List.mem_cons_of_mem _ (List.mem_append_left _ hb))) (by simp [maxLen]; omega) (by simp; omega) kw.size ?_
   refine .i (fo 4 (hbs rfl e3) Try.underlying33 rfl sz31 rfl) ?_
   refine .done ⟨by kernel_rfl, fun a21 g W21 y21 zz21 hk hg hV hR hP => ?_⟩
   obtain ⟨e33, e32, -, -, -, -, -, -⟩ := hV
   replace e2 := (hR 2 rfl).trans e2
   replace e3 := (hR 3 rfl).trans e3
   replace e17 := (hR 17 rfl).trans e17
   replace e18 := (hR 18 rfl).trans e18
   replace e19 := (hR 19 rfl).trans e19
   obtain ⟨v32_21, ev⟩ : ∃ v, sl a21 32 = v := ⟨_, rfl⟩
   rw [ev] at e32
   obtain ⟨hd32_21, A_32_21, hf32_21⟩ := e32
   have e32 := ev; clear ev
   obtain ⟨v32_21a, v32_21n, v32_21c, ev⟩ := arr_sl A_32_21; subst ev
   replace A_32_21 := arrF_new (M' := (b5_16 :: (blks hd32_21 ++ (b3_4 :: (b2_2 :: []))))) A_32_21 (rep_cons (rep_app (rep_q fun _ h => h) (rep_cons (rep_cons rep_nil))))
   replace A_32_21 : Arr W21 w.heap.size 33 5 (SF w (b5_16 :: (blks hd32_21 ++ (b3_4 :: (b2_2 :: []))))) (List.map V.d ((x.xs.take k) ++ [(x.xs[k]'hlt)])) (.slice v32_21a v32_21n v32_21c) hd32_21 := by first | exact A_32_21 | (rw [List.map_append]; exact A_32_21)
   have nb_b2_2_21 : b2_2 ∉ blks hd32_21 := nb_new nb_b2_2_ar9_10 own_b2_2.lt hf32_21
   have nb_b3_4_21 : b3_4 ∉ blks hd32_21 := nb_new nb_b3_4_ar9_10 own_b3_4.lt hf32_21
   have nb_b5_16_21 : b5_16 ∉ blks hd32_21 := nb_new nb_b5_16_ar9 own_b5_16.lt hf32_21
   replace D_ci0 := sa_app (M' := (b5_16 :: (blks hd32_21 ++ (b3_4 :: (b2_2 :: []))))) D_ci0 hk (fun b hb => List.mem_cons_of_mem _ (List.mem_append_left _ hb)) (rep_cons (rep_app hf32_21 (rep_cons (rep_cons rep_nil))))
   replace D_v15_4 := sf_app (M' := (b5_16 :: (blks hd32_21 ++ (b3_4 :: (b2_2 :: []))))) D_v15_4 hk (fun b hb => List.mem_cons_of_mem _ (List.mem_append_left _ hb)) (rep_cons (rep_app hf32_21 (rep_cons (rep_cons rep_nil))))
   replace D_cn22_16 := sa_app (M' := (b5_16 :: (blks hd32_21 ++ (b3_4 :: (b2_2 :: []))))) D_cn22_16 hk (fun b hb => List.mem_cons_of_mem _ (List.mem_append_left _ hb)) (rep_cons (rep_app hf32_21 (rep_cons (rep_cons rep_nil))))
   replace D_ci22_16 := sa_app (M' := (b5_16 :: (blks hd32_21 ++ (b3_4 :: (b2_2 :: []))))) D_ci22_16 hk (fun b hb => List.mem_cons_of_mem _ (List.mem_append_left _ hb)) (rep_cons (rep_app hf32_21 (rep_cons (rep_cons rep_nil))))
   replace own_b2_2 := own_app own_b2_2 hk nb_b2_2_ar9_10
   replace own_b3_4 := own_app own_b3_4 hk nb_b3_4_ar9_10
   replace own_b5_16 := own_app own_b5_16 hk nb_b5_16_ar9
   replace kw := keeps_app kw hk A4_10.ge
   have e33 : sl a21 33 = (.pointer (some ⟨b3_4, 4, none⟩)) := e33
   clear hR hk hg hP hf32_21 A4_10
   refine tail_store (b := b3_4) (o := 4) (v := (.slice v32_21a v32_21n v32_21c)) e33 e32 sz31 rfl own_b3_4 (lbr rfl) (all_cons rfl all_nil) (fun W22 hs own_b3_4 => ?_)
   have own_b3_4 : Own W22 b3_4 [(.int .u8 (x.k)), (.int .i64 (x.n)), (.string (x.t)), (.slice v15_4a (x.ns.length) v15_4c), (.slice v32_21a v32_21n v32_21c)] 33 := own_b3_4
   replace own_b2_2 := own_store own_b2_2 hs ne_b2_2_b3_4
   replace own_b5_16 := own_store own_b5_16 hs ne_b3_4_b5_16.symm
   replace D_ci0 := sa_store D_ci0 hs (by simp)
   replace D_v15_4 := sf_store D_v15_4 hs (by simp)
   replace D_cn22_16 := sa_store D_cn22_16 hs (by simp)
   replace D_ci22_16 := sa_store D_ci22_16 hs (by simp)
   replace A_32_21 := arrF_store A_32_21 hs (by simp) nb_b3_4_21
   replace kw := keeps_store kw hs lo_b3_4
   clear hs
   refine tail_nil (hK14 _ _ ?_)
   refine rg mixed y21 zz21 ?_
   refine .i (sp_add (hbs rfl e19) Has.cst (i64_in (by omega))) ?_
   refine .i (sp_move (hlc rfl)) ?_
   refine .done ⟨by kernel_rfl, fun a23 g W23 y23 zz23 hk hg hV hR hP => ?_⟩
   obtain ⟨e19, -, -⟩ := hV
   replace e2 := (hR 2 rfl).trans e2
   replace e3 := (hR 3 rfl).trans e3
   replace e17 := (hR 17 rfl).trans e17
   replace e18 := (hR 18 rfl).trans e18
   replace A_32_21 := A_32_21.ext hk
   replace D_ci0 := D_ci0.ext hk
   replace D_v15_4 := D_v15_4.ext hk
   replace e19 := e19.q
   replace own_b2_2 := own_b2_2.ext hk
   replace own_b3_4 := own_b3_4.ext hk
   replace own_b5_16 := own_b5_16.ext hk
   replace kw := kw.x hk
   clear hR hk hg hP
   rw [show (x.xs.take k) ++ [(x.xs[k]'hlt)] = x.xs.take (k + 1) by rw [List.take_succ_eq_append_getElem hlt]] at A_32_21
   exact tail_nil ⟨hlt, (.slice v32_21a v32_21n v32_21c), hd32_21, y23, zz23, kw, e2, e3, e17, e18, (e19.trans (congrArg (Value.int .i64) (by simp))), own_b2_2, own_b3_4, (sa_less D_ci0 (ls_skip (ls_keepA (ls_keep (ls_keep ls_nil))))), (sf_less D_v15_4 (ls_skip (ls_keepA (ls_keep (ls_keep ls_nil))))), (arrF_less A_32_21 (ls_skip (ls_keepA (ls_keep (ls_keep ls_nil))))), nb_b2_2_21, nb_b3_4_21⟩
  ·
   have hge0 : ¬ k < x.xs.length := by simpa using hc
   have hge : k = x.xs.length := by omega
   rw [show x.xs.take k = x.xs by rw [hge, List.take_length]] at A4_10
   have D_va4_10 : Rd W12 (SF w [b3_4, b2_2]) (valsD (x.xs)) va4_10 := arrF_rd A4_10 (ls_skipA (ls_keep (ls_keep ls_nil))) (nin_cons nb_b3_4_ar9_10 (nin_cons nb_b2_2_ar9_10 nin_nil))
   obtain ⟨va4_10a, va4_10c, ev, D2⟩ := rdVs_out D_va4_10
   subst ev; replace D_va4_10 := D2; clear D2
   replace D_ci0 := sa_less (M' := [b3_4, b2_2]) D_ci0 (ls_skipA (ls_keep (ls_keep ls_nil)))
   replace D_v15_4 := sf_less (M' := [b3_4, b2_2]) D_v15_4 (ls_skipA (ls_keep (ls_keep ls_nil)))
   refine wp_exit (hK6 _ _ ?_)
   refine wp_seq_k fun K24 hK24 => ?_
   refine rg mixed y12 zz12 ?_
   refine .i (v := (.agg #[(.int .u8 (x.k)), (.int .i64 (x.n)), (.string (x.t)), (.slice v15_4a (x.ns.length) v15_4c), (.slice va4_10a (x.xs.length) va4_10c)])) (loA (hbs rfl e3) own_b3_4 trivial agg33 sz33 rfl rfl) ?_
   refine .done ⟨by kernel_rfl, fun a25 g W25 y25 zz25 hk hg hV hR hP => ?_⟩
   obtain ⟨e35, -⟩ := hV
   replace e2 := (hR 2 rfl).trans e2
   replace D_ci0 := D_ci0.ext hk
   replace D_v15_4 := D_v15_4.ext hk
   replace D_va4_10 := D_va4_10.ext hk
   replace e35 := e35.q
   replace own_b2_2 := own_b2_2.ext hk
   replace own_b3_4 := own_b3_4.ext hk
   replace kw := kw.x hk
   clear hR hk hg hP
   refine tail_store (b := b2_2) (o := 0) (v := (.agg #[(.int .u8 (x.k)), (.int .i64 (x.n)), (.string (x.t)), (.slice v15_4a (x.ns.length) v15_4c), (.slice va4_10a (x.xs.length) va4_10c)])) e2 e35 sz33 rfl own_b2_2 (lbr rfl) (all_cons rfl (all_cons rfl (all_cons rfl (all_cons rfl (all_cons rfl all_nil))))) (fun W26 hs own_b2_2 => ?_)
   have own_b2_2 : Own W26 b2_2 [(.int .u8 (x.k)), (.int .i64 (x.n)), (.string (x.t)), (.slice v15_4a (x.ns.length) v15_4c), (.slice va4_10a (x.xs.length) va4_10c)] 33 := own_b2_2
   replace own_b3_4 := own_store own_b3_4 hs ne_b2_2_b3_4.symm
   replace D_ci0 := sa_store D_ci0 hs (by simp)
   replace D_v15_4 := sf_store D_v15_4 hs (by simp)
   replace D_va4_10 := sf_store D_va4_10 hs (by simp)
   replace kw := keeps_store kw hs lo_b2_2
   clear hs
   refine tail_nil (hK24 _ _ ?_)
   refine wp_ret ?_
   refine (show bodyPost Try.prog Try.f79 _ .ret _ _ from retC (v := (.agg #[(.int .u8 (x.k)), (.int .i64 (x.n)), (.string (x.t)), (.slice v15_4a (x.ns.length) v15_4c), (.slice va4_10a (x.xs.length) va4_10c)])) rfl zz25 e2 own_b2_2 agg33 sz33 rfl (fun h => by cases h) rfl ⟨_, rfl, kw, ?_⟩)
   exact sf_fr (rdV_in (x := x) ht0 D_v15_4 D_va4_10 : Rd W26 (SF w [b3_4, b2_2]) (V.d (x)) _)

end Go.Proofs.Ytnobijngkpflcaa
