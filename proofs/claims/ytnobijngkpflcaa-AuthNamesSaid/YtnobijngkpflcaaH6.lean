import Derived.Test.YtnobijngkpflcaaH5
import Derived.Test.YtnobijngkpflcaaEngO
namespace Go.Proofs.Ytnobijngkpflcaa
open Go.Eng
set_option maxRecDepth 100000 in
theorem Of_ok (x : V) (hx : x.wt ≤ 1073741824) (hof : ofE x = 0) (w : World) (S : BSet) (v : Value) (hS : ∀ b o, S b o → Cln o) (hv : Rd w S x.d v) : Calls Try.prog 21 #[v] w (Ret w fun u W => PkAt w W 74 x [] 0 u) := by
  have hwx := wt_eq x
  have hwl := wts_len x.xs
  have hwn := wtN_len x.ns
  have hk5 : x.k = 5 ∧ x.ns.length = x.xs.length ∧ asc x.ns = true := by
    unfold ofE at hof
    split at hof
    · cases hof
    · split at hof
      · cases hof
      · rename_i h1 h2
        have h3 : asc x.ns = true := by cases hq : asc x.ns with | true => rfl | false => exact absurd (.inr hq) h2
        exact ⟨by omega, by omega, h3⟩
  obtain ⟨cn0a, cn0c, ci0a, ci0c, ev, ht0, D_cn0, D_ci0⟩ := rdV_out (rd_arg hv)
  subst ev
  refine enter Try.func21 rfl Try.ntmps21 (lbr rfl) fun a0 y0 zz0 harg => ?_
  have e0 : sl a0 0 = (.agg #[(.int .u8 (x.k)), (.int .i64 (x.n)), (.string (x.t)), (.slice cn0a (x.ns.length) cn0c), (.slice ci0a (x.xs.length) ci0c)]) := harg 0 (lbr rfl)
  have kw := Keeps.refl All w
  clear harg
  refine wp_seq_k fun K1 hK1 => ?_
  refine rg mixed y0 zz0 ?_
  refine .boxOp (v := (.agg #[(.int .u8 (x.k)), (.int .i64 (x.n)), (.string (x.t)), (.slice cn0a (x.ns.length) cn0c), (.slice ci0a (x.xs.length) ci0c)])) (hbs rfl e0) ?_
  refine .i (sp_assign Has.cst) ?_
  refine .done ⟨by kernel_rfl, fun a2 g W2 y2 zz2 hk hg hV hR hP => ?_⟩
  obtain ⟨-, ⟨b1_2, e1, hb1, own_b1_2⟩, -⟩ := hV
  have lo_b1_2 : w.heap.size ≤ b1_2 := Nat.le_trans kw.size (hg.lo _ _ hb1)
  have own_b1_2 : Own W2 b1_2 [(.int .u8 (x.k)), (.int .i64 (x.n)), (.string (x.t)), (.slice cn0a (x.ns.length) cn0c), (.slice ci0a (x.xs.length) ci0c)] 33 := own_b1_2
  replace D_cn0 := sa_more D_cn0 hk [b1_2] (in_cons (hg.lo _ _ hb1) in_nil)
  replace D_ci0 := sa_more D_ci0 hk [b1_2] (in_cons (hg.lo _ _ hb1) in_nil)
  replace kw := kw.x hk
  clear hR hk hg hP hb1
  refine tail_nil (hK1 _ _ ?_)
  refine wp_seq_k fun K3 hK3 => ?_
  refine wp_seq_k fun K4 hK4 => ?_
  refine rg mixed y2 zz2 ?_
  refine .i (fo 0 (hbs rfl e1) Try.underlying33 rfl sz5 rfl) ?_
  refine .i (lo1 (hlc rfl) own_b1_2 trivial agg5 sz5 rfl) ?_
  refine .i (sp_neq (hlc rfl) Has.cst) ?_
  refine .done ⟨by kernel_rfl, fun a5 g W5 y5 zz5 hk hg hV hR hP => ?_⟩
  obtain ⟨e6, -, -, -⟩ := hV
  replace e1 := (hR 1 rfl).trans e1
  replace D_cn0 := D_cn0.ext hk
  replace D_ci0 := D_ci0.ext hk
  have e6 : sl a5 6 = (.bool ((x.k : Int) != (5 : Int))) := e6
  replace own_b1_2 := own_b1_2.ext hk
  replace kw := kw.x hk
  clear hR hk hg hP
  refine tail_nil (hK4 _ _ ?_)
  refine wp_cond_split e6 (fun hc => ?_) (fun hc => ?_)
  ·
   exfalso
   simp [hk5.1] at hc
  ·
   refine wp_skip (hK3 _ _ ?_)
   refine wp_seq_k fun K6 hK6 => ?_
   refine wp_seq_k fun K7 hK7 => ?_
   refine rg mixed y5 zz5 ?_
   refine .i (fo 3 (hbs rfl e1) Try.underlying33 rfl sz23 rfl) ?_
   refine .i (lo1 (hlc rfl) own_b1_2 trivial agg23 sz23 rfl) ?_
   refine .i (sp_lenSs Try.underlying23 ((hlc rfl).dat D_cn0 sub_all)) ?_
   refine .i (fo 4 (hbs rfl e1) Try.underlying33 rfl sz31 rfl) ?_
   refine .i (lo1 (hlc rfl) own_b1_2 trivial agg31 sz31 rfl) ?_
   refine .i (sp_lenVs Try.underlying31 ((hlc rfl).dat D_ci0 sub_all)) ?_
   refine .i (sp_neq (hlc rfl) (hlc rfl)) ?_
   refine .done ⟨by kernel_rfl, fun a8 g W8 y8 zz8 hk hg hV hR hP => ?_⟩
   obtain ⟨e15, -, -, -, -, -, -, -⟩ := hV
   replace e1 := (hR 1 rfl).trans e1
   replace D_cn0 := D_cn0.ext hk
   replace D_ci0 := D_ci0.ext hk
   replace e15 := e15.q
   replace own_b1_2 := own_b1_2.ext hk
   replace kw := kw.x hk
   clear hR hk hg hP
   refine tail_nil (hK7 _ _ ?_)
   refine wp_cond_split e15 (fun hc => ?_) (fun hc => ?_)
   ·
    exfalso
    simp [hk5.2.1] at hc
   ·
    refine wp_skip (hK6 _ _ ?_)
    refine wp_seq_k fun K9 hK9 => ?_
    refine wp_seq_k fun K10 hK10 => ?_
    refine rg mixed y8 zz8 ?_
    refine .i (sp_assign Has.cst) ?_
    refine .done ⟨by kernel_rfl, fun a11 g W11 y11 zz11 hk hg hV hR hP => ?_⟩
    obtain ⟨e3, -⟩ := hV
    replace e1 := (hR 1 rfl).trans e1
    replace D_cn0 := D_cn0.ext hk
    replace D_ci0 := D_ci0.ext hk
    have e3 : sl a11 3 = (.int .i64 (1)) := e3
    replace own_b1_2 := own_b1_2.ext hk
    replace kw := kw.x hk
    clear hR hk hg hP
    refine tail_nil (hK10 _ _ ?_)
    refine wp_block ?_
    refine wp_for (x.ns.length) (fun k a W => a.tmps.size = 44 ∧ a.defers = [] ∧ Keeps All w W ∧ sl a 1 = (.pointer (some ⟨b1_2, 0, none⟩)) ∧ sl a 3 = (.int .i64 (((k + 1 : Nat) : Int))) ∧ Own W b1_2 [(.int .u8 (x.k)), (.int .i64 (x.n)), (.string (x.t)), (.slice cn0a (x.ns.length) cn0c), (.slice ci0a (x.xs.length) ci0c)] 33 ∧ Rd W (SA w S [b1_2]) (strsD (x.ns)) (.slice cn0a (x.ns.length) cn0c) ∧ Rd W (SA w S [b1_2]) (valsD (x.xs)) (.slice ci0a (x.xs.length) ci0c)) ⟨y11, zz11, kw, e1, (e3.trans (congrArg (Value.int .i64) (rfl))), own_b1_2, D_cn0, D_ci0⟩ ?_
    clear kw e1 e3 own_b1_2 D_cn0 D_ci0
    rintro k a12 W12 hkk ⟨y12, zz12, kw, e1, e3, own_b1_2, D_cn0, D_ci0⟩
    refine wp_seq_k fun K13 hK13 => ?_
    refine wp_seq_k fun K14 hK14 => ?_
    refine rg mixed y12 zz12 ?_
    refine .i (sp_move (hbs rfl e3)) ?_
    refine .i (fo 3 (hbs rfl e1) Try.underlying33 rfl sz23 rfl) ?_
    refine .i (lo1 (hlc rfl) own_b1_2 trivial agg23 sz23 rfl) ?_
    refine .i (sp_lenSs Try.underlying23 ((hlc rfl).dat D_cn0 sub_all)) ?_
    refine .i (sp_lss (hlc rfl) (hlc rfl)) ?_
    refine .done ⟨by kernel_rfl, fun a15 g W15 y15 zz15 hk hg hV hR hP => ?_⟩
    obtain ⟨e22, -, -, -, -, -⟩ := hV
    replace e1 := (hR 1 rfl).trans e1
    replace e3 := (hR 3 rfl).trans e3
    replace D_cn0 := D_cn0.ext hk
    replace D_ci0 := D_ci0.ext hk
    replace e22 := e22.q
    replace own_b1_2 := own_b1_2.ext hk
    replace kw := kw.x hk
    clear hR hk hg hP
    refine tail_nil (hK14 _ _ ?_)
    refine wp_cond_split e22 (fun hc => ?_) (fun hc => ?_)
    ·
     have hlt : k + 1 < x.ns.length := by have := of_decide_eq_true hc; omega
     refine wp_skip (hK13 _ _ ?_)
     refine wp_seq_k fun K16 hK16 => ?_
     refine wp_block ?_
     refine wp_seq_k fun K17 hK17 => ?_
     refine rg mixed y15 zz15 ?_
     refine .i (fo 3 (hbs rfl e1) Try.underlying33 rfl sz23 rfl) ?_
     refine .i (lo1 (hlc rfl) own_b1_2 trivial agg23 sz23 rfl) ?_
     refine .i (sp_move (hbs rfl e3)) ?_
     refine .i (sp_sub (hlc rfl) Has.cst (i64_in (by omega))) ?_
     refine .rf (sp_indexS (i := k) ((hlc rfl).dat D_cn0 sub_all) (hlc rfl) Try.underlying23 sz9 (by omega) (by omega)) ?_
     refine .i (sp_loadStr (hlc rfl) agg9 sz9) ?_
     refine .i (fo 3 (hbs rfl e1) Try.underlying33 rfl sz23 rfl) ?_
     refine .i (lo1 (hlc rfl) own_b1_2 trivial agg23 sz23 rfl) ?_
     refine .i (sp_move (hbs rfl e3)) ?_
     refine .rf (sp_indexS (i := (k + 1)) ((hlc rfl).dat D_cn0 sub_all) (hlc rfl) Try.underlying23 sz9 rfl hlt) ?_
     refine .i (sp_loadStr (hlc rfl) agg9 sz9) ?_
     refine .i (sp_sGeq (hlc rfl) (hlc rfl)) ?_
     refine .done ⟨by kernel_rfl, fun a18 g W18 y18 zz18 hk hg hV hR hP => ?_⟩
     obtain ⟨e36, -, -, -, -, -, -, -, -, -, -, -, -⟩ := hV
     replace e1 := (hR 1 rfl).trans e1
     replace e3 := (hR 3 rfl).trans e3
     replace D_cn0 := D_cn0.ext hk
     replace D_ci0 := D_ci0.ext hk
     replace e36 := e36.q
     replace own_b1_2 := own_b1_2.ext hk
     replace kw := kw.x hk
     clear hR hk hg hP
     refine tail_nil (hK17 _ _ ?_)
     refine wp_cond_split e36 (fun hc => ?_) (fun hc => ?_)
     ·
      exfalso
      have h1 := (asc_iff x.ns).1 hk5.2.2 k hlt
      simp [h1] at hc
     ·
      refine wp_skip (hK16 _ _ ?_)
      refine rg mixed y18 zz18 ?_
      refine .i (sp_move (hbs rfl e3)) ?_
      refine .i (sp_add (hlc rfl) Has.cst (i64_in (by omega))) ?_
      refine .i (sp_assign (hlc rfl)) ?_
      refine .done ⟨by kernel_rfl, fun a19 g W19 y19 zz19 hk hg hV hR hP => ?_⟩
      obtain ⟨e3, -, -, -⟩ := hV
      replace e1 := (hR 1 rfl).trans e1
      replace D_cn0 := D_cn0.ext hk
      replace D_ci0 := D_ci0.ext hk
      replace e3 := e3.q
      replace own_b1_2 := own_b1_2.ext hk
      replace kw := kw.x hk
      clear hR hk hg hP
      exact tail_nil ⟨by omega, y19, zz19, kw, e1, (e3.trans (congrArg (Value.int .i64) (by omega))), own_b1_2, D_cn0, D_ci0⟩
    ·
     refine wp_exit (hK9 _ _ ?_)
     refine wp_seq_k fun K20 hK20 => ?_
     refine rg mixed y15 zz15 ?_
     refine .i (v := (.agg #[(.int .u8 (x.k)), (.int .i64 (x.n)), (.string (x.t)), (.slice cn0a (x.ns.length) cn0c), (.slice ci0a (x.xs.length) ci0c)])) (loA (hbs rfl e1) own_b1_2 trivial agg33 sz33 rfl rfl) ?_
     refine .da (X := Fr W15) (e := V.d (x)) (sp_call1 (φ1 := IsD (SA w S [b1_2]) (V.d (x))) ent79 ((hlc rfl).dat (rdV_in (x := x) ht0 D_cn0 D_ci0 : Rd W15 (SA w S [b1_2]) (V.d (x)) _) sub_all) (fun g u1 W hk hgk h1 => (Copy_ok (x) (by first | omega | exact Nat.le_of_ble_eq_true (by kernel_rfl)) W _ _ (fun b o h => sa_cln hS b o h.1) h1).mono (ret_fr hk hgk))) ?_
     refine .done ⟨by kernel_rfl, fun a21 g W21 y21 zz21 hk hg hV hR hP => ?_⟩
     obtain ⟨e40, -, -⟩ := hV
     replace D_cn0 := D_cn0.ext hk
     replace D_ci0 := D_ci0.ext hk
     obtain ⟨v40_21, ev⟩ : ∃ v, sl a21 40 = v := ⟨_, rfl⟩
     rw [ev] at e40
     have D_v40_21 : Rd W21 (SF w [b1_2]) (V.d (x)) v40_21 := fr_end (M := [b1_2]) e40 kw [] in_nil (in_cons own_b1_2.lt in_nil)
     replace e40 := ev; clear ev
     obtain ⟨cn40_21a, cn40_21c, ci40_21a, ci40_21c, ev, ht_v40_21, D_cn40_21, D_ci40_21⟩ := rdV_out D_v40_21
     subst ev; clear D_v40_21
     replace own_b1_2 := own_b1_2.ext hk
     replace kw := kw.x hk
     clear hR hk hg hP
     refine tail_reg 1 All y21 zz21 st_tr trivial rfl ?_
     refine .mkMap ?_
     refine .done ⟨by kernel_rfl, fun a22 g W22 y22 zz22 hk hg hV hR hP => ?_⟩
     refine tail_nil ?_
     show runTail _ _ _ _ _ _
     obtain ⟨⟨b41_22, e41, hb41, own_b41_22⟩, -⟩ := hV
     have lo_b41_22 : w.heap.size ≤ b41_22 := Nat.le_trans kw.size (hg.lo _ _ hb41)
     have ne_b1_2_b41_22 : b1_2 ≠ b41_22 := Nat.ne_of_lt (Nat.lt_of_lt_of_le own_b1_2.lt (hg.lo _ _ hb41))
     have own_b41_22 : OwnM W22 b41_22 ([]) := own_b41_22
     replace e40 := (hR 40 rfl).trans e40
     replace D_cn40_21 := sf_more D_cn40_21 hk [b41_22] (in_cons (hg.lo _ _ hb41) in_nil)
     replace D_ci40_21 := sf_more D_ci40_21 hk [b41_22] (in_cons (hg.lo _ _ hb41) in_nil)
     replace own_b1_2 := own_b1_2.ext hk
     replace kw := kw.x hk
     clear hR hk hg hP hb41
     refine tail_reg 2 All y22 zz22 st_tr trivial rfl ?_
     refine .i (v := (.agg #[(.int .u8 (x.k)), (.int .i64 (x.n)), (.string (x.t)), (.slice cn40_21a (x.ns.length) cn40_21c), (.slice ci40_21a (x.xs.length) ci40_21c), (.map (some b41_22)), (.int .i64 (0))])) (sp_build (vs := [(0, (.agg #[(.int .u8 (x.k)), (.int .i64 (x.n)), (.string (x.t)), (.slice cn40_21a (x.ns.length) cn40_21c), (.slice ci40_21a (x.xs.length) ci40_21c)])), (1, (.map (some b41_22)))]) Try.underlying74 z74 (pl74 Try.underlying74) ⟨rfl, (hbs rfl e40), rfl, (hbs rfl e41), trivial⟩ (by kernel_rfl)) ?_
     refine .boxOp (v := (.agg #[(.int .u8 (x.k)), (.int .i64 (x.n)), (.string (x.t)), (.slice cn40_21a (x.ns.length) cn40_21c), (.slice ci40_21a (x.xs.length) ci40_21c), (.map (some b41_22)), (.int .i64 (0))])) (hlc rfl) ?_
     refine .done ⟨by kernel_rfl, fun a23 g W23 y23 zz23 hk hg hV hR hP => ?_⟩
     refine tail_nil ?_
     show runTail _ _ _ _ _ _
     obtain ⟨⟨b43_23, e43, hb43, own_b43_23⟩, -, -⟩ := hV
     have lo_b43_23 : w.heap.size ≤ b43_23 := Nat.le_trans kw.size (hg.lo _ _ hb43)
     have ne_b1_2_b43_23 : b1_2 ≠ b43_23 := Nat.ne_of_lt (Nat.lt_of_lt_of_le own_b1_2.lt (hg.lo _ _ hb43))
     have ne_b41_22_b43_23 : b41_22 ≠ b43_23 := Nat.ne_of_lt (Nat.lt_of_lt_of_le own_b41_22.lt (hg.lo _ _ hb43))
     have own_b43_23 : Own W23 b43_23 [(.int .u8 (x.k)), (.int .i64 (x.n)), (.string (x.t)), (.slice cn40_21a (x.ns.length) cn40_21c), (.slice ci40_21a (x.xs.length) ci40_21c), (.map (some b41_22)), (.int .i64 (0))] 74 := own_b43_23
     replace D_cn40_21 := sf_more D_cn40_21 hk [b43_23] (in_cons (hg.lo _ _ hb43) in_nil)
     replace D_ci40_21 := sf_more D_ci40_21 hk [b43_23] (in_cons (hg.lo _ _ hb43) in_nil)
     replace own_b1_2 := own_b1_2.ext hk
     replace own_b41_22 := own_b41_22.ext hk
     replace kw := kw.x hk
     clear hR hk hg hP hb43
     refine tail_assign (v := (.pointer (some ⟨b43_23, 0, none⟩))) e43 (by rw [y23]; exact Nat.le_of_ble_eq_true rfl) (fun a24 y24 zz24 e2 hr => ?_)
     replace y24 := y24.trans y23; replace zz24 := zz24.trans zz23
     replace e43 := (hr 43 (by decide)).trans e43
     clear hr
     refine tail_nil (hK20 _ _ ?_)
     refine wp_ret ?_
     refine (show bodyPost Try.prog Try.f21 _ .ret _ _ from ret1 rfl zz24 e2 ⟨_, rfl, kw, ?_⟩)
     exact ⟨b43_23, b41_22, _, _, rfl, lo_b43_23, lo_b41_22, ne_b41_22_b43_23.symm, own_b43_23, own_b41_22, sf_pkf (by simp) D_cn40_21, sf_pkf (by simp) D_ci40_21, ht_v40_21⟩

set_option maxRecDepth 100000 in
theorem OfD_ok (x : V) (hof : ofE x ≠ 0) (w : World) (S : BSet) (v : Value) (hv : Rd w S x.d v) : Calls Try.prog 21 #[v] w (Ret w fun u W => PkD w W 74 (ofE x) u) := by
  have hmn : x.ns.length ≤ maxLen := by obtain ⟨_, _, _, _, _, _, h, _⟩ := rdV_out hv; exact rd_lenS h
  simp only [maxLen] at hmn
  obtain ⟨cn0a, cn0c, ci0a, ci0c, ev, ht0, D_cn0, D_ci0⟩ := rdV_out (rd_arg hv)
  subst ev
  refine enter Try.func21 rfl Try.ntmps21 (lbr rfl) fun a0 y0 zz0 harg => ?_
  have e0 : sl a0 0 = (.agg #[(.int .u8 (x.k)), (.int .i64 (x.n)), (.string (x.t)), (.slice cn0a (x.ns.length) cn0c), (.slice ci0a (x.xs.length) ci0c)]) := harg 0 (lbr rfl)
  have kw := Keeps.refl All w
  clear harg
  refine wp_seq_k fun K1 hK1 => ?_
  refine rg mixed y0 zz0 ?_
  refine .boxOp (v := (.agg #[(.int .u8 (x.k)), (.int .i64 (x.n)), (.string (x.t)), (.slice cn0a (x.ns.length) cn0c), (.slice ci0a (x.xs.length) ci0c)])) (hbs rfl e0) ?_
  refine .i (sp_assign Has.cst) ?_
  refine .done ⟨by kernel_rfl, fun a2 g W2 y2 zz2 hk hg hV hR hP => ?_⟩
  obtain ⟨-, ⟨b1_2, e1, hb1, own_b1_2⟩, -⟩ := hV
  have lo_b1_2 : w.heap.size ≤ b1_2 := Nat.le_trans kw.size (hg.lo _ _ hb1)
  have own_b1_2 : Own W2 b1_2 [(.int .u8 (x.k)), (.int .i64 (x.n)), (.string (x.t)), (.slice cn0a (x.ns.length) cn0c), (.slice ci0a (x.xs.length) ci0c)] 33 := own_b1_2
  replace D_cn0 := sa_more D_cn0 hk [b1_2] (in_cons (hg.lo _ _ hb1) in_nil)
  replace D_ci0 := sa_more D_ci0 hk [b1_2] (in_cons (hg.lo _ _ hb1) in_nil)
  replace kw := kw.x hk
  clear hR hk hg hP hb1
  refine tail_nil (hK1 _ _ ?_)
  refine wp_seq_k fun K3 hK3 => ?_
  refine wp_seq_k fun K4 hK4 => ?_
  refine rg mixed y2 zz2 ?_
  refine .i (fo 0 (hbs rfl e1) Try.underlying33 rfl sz5 rfl) ?_
  refine .i (lo1 (hlc rfl) own_b1_2 trivial agg5 sz5 rfl) ?_
  refine .i (sp_neq (hlc rfl) Has.cst) ?_
  refine .done ⟨by kernel_rfl, fun a5 g W5 y5 zz5 hk hg hV hR hP => ?_⟩
  obtain ⟨e6, -, -, -⟩ := hV
  replace e1 := (hR 1 rfl).trans e1
  replace D_cn0 := D_cn0.ext hk
  replace D_ci0 := D_ci0.ext hk
  have e6 : sl a5 6 = (.bool ((x.k : Int) != (5 : Int))) := e6
  replace own_b1_2 := own_b1_2.ext hk
  replace kw := kw.x hk
  clear hR hk hg hP
  refine tail_nil (hK4 _ _ ?_)
  refine wp_cond_split e6 (fun hc => ?_) (fun hc => ?_)
  ·
   have hf : ofE x = 10 := by rw [ofE, if_pos (by simp at hc; omega)]
   refine wp_seq_k fun K6 hK6 => ?_
   refine rg mixed y5 zz5 ?_
   refine .i (v := (.agg #[(.int .u8 (0)), (.int .i64 (0)), (.string (⟨#[]⟩)), (.slice none 0 0), (.slice none 0 0), (.map none), (.int .i64 (10))])) (sp_build (vs := [(2, (.int .i64 (10)))]) Try.underlying74 z74 (pl74 Try.underlying74) ⟨rfl, Has.cst, trivial⟩ rfl) ?_
   refine .boxOp (v := (.agg #[(.int .u8 (0)), (.int .i64 (0)), (.string (⟨#[]⟩)), (.slice none 0 0), (.slice none 0 0), (.map none), (.int .i64 (10))])) (hlc rfl) ?_
   refine .done ⟨by kernel_rfl, fun a7 g W7 y7 zz7 hk hg hV hR hP => ?_⟩
   obtain ⟨⟨b8_7, e8, hb8, own_b8_7⟩, -, -⟩ := hV
   have lo_b8_7 : w.heap.size ≤ b8_7 := Nat.le_trans kw.size (hg.lo _ _ hb8)
   have ne_b1_2_b8_7 : b1_2 ≠ b8_7 := Nat.ne_of_lt (Nat.lt_of_lt_of_le own_b1_2.lt (hg.lo _ _ hb8))
   have own_b8_7 : Own W7 b8_7 [(.int .u8 (0)), (.int .i64 (0)), (.string (⟨#[]⟩)), (.slice none 0 0), (.slice none 0 0), (.map none), (.int .i64 (10))] 74 := own_b8_7
   replace D_cn0 := sa_more D_cn0 hk [b8_7] (in_cons (hg.lo _ _ hb8) in_nil)
   replace D_ci0 := sa_more D_ci0 hk [b8_7] (in_cons (hg.lo _ _ hb8) in_nil)
   replace own_b1_2 := own_b1_2.ext hk
   replace kw := kw.x hk
   clear hR hk hg hP hb8
   refine tail_assign (v := (.pointer (some ⟨b8_7, 0, none⟩))) e8 (by rw [y7]; exact Nat.le_of_ble_eq_true rfl) (fun a8 y8 zz8 e2 hr => ?_)
   replace y8 := y8.trans y7; replace zz8 := zz8.trans zz7
   replace e8 := (hr 8 (by decide)).trans e8
   clear hr
   refine tail_nil (hK6 _ _ ?_)
   refine wp_ret ?_
   refine (show bodyPost Try.prog Try.f21 _ .ret _ _ from ret1 rfl zz8 e2 ⟨_, rfl, kw, ?_⟩)
   rw [hf]
   exact ⟨b8_7, rfl, lo_b8_7, own_b8_7⟩
  ·
   have hk : ¬ x.k ≠ 5 := by simp at hc; omega
   refine wp_skip (hK3 _ _ ?_)
   refine wp_seq_k fun K9 hK9 => ?_
   refine wp_seq_k fun K10 hK10 => ?_
   refine rg mixed y5 zz5 ?_
   refine .i (fo 3 (hbs rfl e1) Try.underlying33 rfl sz23 rfl) ?_
   refine .i (lo1 (hlc rfl) own_b1_2 trivial agg23 sz23 rfl) ?_
   refine .i (sp_lenSs Try.underlying23 ((hlc rfl).dat D_cn0 sub_all)) ?_
   refine .i (fo 4 (hbs rfl e1) Try.underlying33 rfl sz31 rfl) ?_
   refine .i (lo1 (hlc rfl) own_b1_2 trivial agg31 sz31 rfl) ?_
   refine .i (sp_lenVs Try.underlying31 ((hlc rfl).dat D_ci0 sub_all)) ?_
   refine .i (sp_neq (hlc rfl) (hlc rfl)) ?_
   refine .done ⟨by kernel_rfl, fun a11 g W11 y11 zz11 hk hg hV hR hP => ?_⟩
   obtain ⟨e15, -, -, -, -, -, -, -⟩ := hV
   replace e1 := (hR 1 rfl).trans e1
   replace D_cn0 := D_cn0.ext hk
   replace D_ci0 := D_ci0.ext hk
   replace e15 := e15.q
   replace own_b1_2 := own_b1_2.ext hk
   replace kw := kw.x hk
   clear hR hk hg hP
   refine tail_nil (hK10 _ _ ?_)
   refine wp_cond_split e15 (fun hc => ?_) (fun hc => ?_)
   ·
    have hf : ofE x = 3 := by rw [ofE, if_neg hk, if_pos (.inl (by simp at hc; omega))]
    refine wp_seq_k fun K12 hK12 => ?_
    refine rg mixed y11 zz11 ?_
    refine .i (v := (.agg #[(.int .u8 (0)), (.int .i64 (0)), (.string (⟨#[]⟩)), (.slice none 0 0), (.slice none 0 0), (.map none), (.int .i64 (3))])) (sp_build (vs := [(2, (.int .i64 (3)))]) Try.underlying74 z74 (pl74 Try.underlying74) ⟨rfl, Has.cst, trivial⟩ rfl) ?_
    refine .boxOp (v := (.agg #[(.int .u8 (0)), (.int .i64 (0)), (.string (⟨#[]⟩)), (.slice none 0 0), (.slice none 0 0), (.map none), (.int .i64 (3))])) (hlc rfl) ?_
    refine .done ⟨by kernel_rfl, fun a13 g W13 y13 zz13 hk hg hV hR hP => ?_⟩
    obtain ⟨⟨b17_13, e17, hb17, own_b17_13⟩, -, -⟩ := hV
    have lo_b17_13 : w.heap.size ≤ b17_13 := Nat.le_trans kw.size (hg.lo _ _ hb17)
    have ne_b1_2_b17_13 : b1_2 ≠ b17_13 := Nat.ne_of_lt (Nat.lt_of_lt_of_le own_b1_2.lt (hg.lo _ _ hb17))
    have own_b17_13 : Own W13 b17_13 [(.int .u8 (0)), (.int .i64 (0)), (.string (⟨#[]⟩)), (.slice none 0 0), (.slice none 0 0), (.map none), (.int .i64 (3))] 74 := own_b17_13
    replace D_cn0 := sa_more D_cn0 hk [b17_13] (in_cons (hg.lo _ _ hb17) in_nil)
    replace D_ci0 := sa_more D_ci0 hk [b17_13] (in_cons (hg.lo _ _ hb17) in_nil)
    replace own_b1_2 := own_b1_2.ext hk
    replace kw := kw.x hk
    clear hR hk hg hP hb17
    refine tail_assign (v := (.pointer (some ⟨b17_13, 0, none⟩))) e17 (by rw [y13]; exact Nat.le_of_ble_eq_true rfl) (fun a14 y14 zz14 e2 hr => ?_)
    replace y14 := y14.trans y13; replace zz14 := zz14.trans zz13
    replace e17 := (hr 17 (by decide)).trans e17
    clear hr
    refine tail_nil (hK12 _ _ ?_)
    refine wp_ret ?_
    refine (show bodyPost Try.prog Try.f21 _ .ret _ _ from ret1 rfl zz14 e2 ⟨_, rfl, kw, ?_⟩)
    rw [hf]
    exact ⟨b17_13, rfl, lo_b17_13, own_b17_13⟩
   ·
    have hl : x.ns.length = x.xs.length := by simp at hc; omega
    refine wp_skip (hK9 _ _ ?_)
    refine wp_seq_k fun K15 hK15 => ?_
    refine wp_seq_k fun K16 hK16 => ?_
    refine rg mixed y11 zz11 ?_
    refine .i (sp_assign Has.cst) ?_
    refine .done ⟨by kernel_rfl, fun a17 g W17 y17 zz17 hk hg hV hR hP => ?_⟩
    obtain ⟨e3, -⟩ := hV
    replace e1 := (hR 1 rfl).trans e1
    replace D_cn0 := D_cn0.ext hk
    replace D_ci0 := D_ci0.ext hk
    have e3 : sl a17 3 = (.int .i64 (1)) := e3
    replace own_b1_2 := own_b1_2.ext hk
    replace kw := kw.x hk
    clear hR hk hg hP
    refine tail_nil (hK16 _ _ ?_)
    refine wp_block ?_
    refine wp_for (x.ns.length) (fun k a W => a.tmps.size = 44 ∧ a.defers = [] ∧ Keeps All w W ∧ sl a 1 = (.pointer (some ⟨b1_2, 0, none⟩)) ∧ sl a 3 = (.int .i64 (((k + 1 : Nat) : Int))) ∧ Own W b1_2 [(.int .u8 (x.k)), (.int .i64 (x.n)), (.string (x.t)), (.slice cn0a (x.ns.length) cn0c), (.slice ci0a (x.xs.length) ci0c)] 33 ∧ Rd W (SA w S [b1_2]) (strsD (x.ns)) (.slice cn0a (x.ns.length) cn0c) ∧ Rd W (SA w S [b1_2]) (valsD (x.xs)) (.slice ci0a (x.xs.length) ci0c) ∧ (∀ i (h : i + 1 < x.ns.length), i < k → sLt x.ns[i] x.ns[i + 1] = true)) ⟨y17, zz17, kw, e1, (e3.trans (congrArg (Value.int .i64) (rfl))), own_b1_2, D_cn0, D_ci0, fun i h hi => absurd hi (by omega)⟩ ?_
    clear kw e1 e3 own_b1_2 D_cn0 D_ci0
    rintro k a18 W18 hkk ⟨y18, zz18, kw, e1, e3, own_b1_2, D_cn0, D_ci0, hinv⟩
    refine wp_seq_k fun K19 hK19 => ?_
    refine wp_seq_k fun K20 hK20 => ?_
    refine rg mixed y18 zz18 ?_
    refine .i (sp_move (hbs rfl e3)) ?_
    refine .i (fo 3 (hbs rfl e1) Try.underlying33 rfl sz23 rfl) ?_
    refine .i (lo1 (hlc rfl) own_b1_2 trivial agg23 sz23 rfl) ?_
    refine .i (sp_lenSs Try.underlying23 ((hlc rfl).dat D_cn0 sub_all)) ?_
    refine .i (sp_lss (hlc rfl) (hlc rfl)) ?_
    refine .done ⟨by kernel_rfl, fun a21 g W21 y21 zz21 hk hg hV hR hP => ?_⟩
    obtain ⟨e22, -, -, -, -, -⟩ := hV
    replace e1 := (hR 1 rfl).trans e1
    replace e3 := (hR 3 rfl).trans e3
    replace D_cn0 := D_cn0.ext hk
    replace D_ci0 := D_ci0.ext hk
    replace e22 := e22.q
    replace own_b1_2 := own_b1_2.ext hk
    replace kw := kw.x hk
    clear hR hk hg hP
    refine tail_nil (hK20 _ _ ?_)
    refine wp_cond_split e22 (fun hc => ?_) (fun hc => ?_)
    ·
     have hlt : k + 1 < x.ns.length := by have := of_decide_eq_true hc; omega
     refine wp_skip (hK19 _ _ ?_)
     refine wp_seq_k fun K22 hK22 => ?_
     refine wp_block ?_
     refine wp_seq_k fun K23 hK23 => ?_
     refine rg mixed y21 zz21 ?_
     refine .i (fo 3 (hbs rfl e1) Try.underlying33 rfl sz23 rfl) ?_
     refine .i (lo1 (hlc rfl) own_b1_2 trivial agg23 sz23 rfl) ?_
     refine .i (sp_move (hbs rfl e3)) ?_
     refine .i (sp_sub (hlc rfl) Has.cst (i64_in (by omega))) ?_
     refine .rf (sp_indexS (i := k) ((hlc rfl).dat D_cn0 sub_all) (hlc rfl) Try.underlying23 sz9 (by omega) (by omega)) ?_
     refine .i (sp_loadStr (hlc rfl) agg9 sz9) ?_
     refine .i (fo 3 (hbs rfl e1) Try.underlying33 rfl sz23 rfl) ?_
     refine .i (lo1 (hlc rfl) own_b1_2 trivial agg23 sz23 rfl) ?_
     refine .i (sp_move (hbs rfl e3)) ?_
     refine .rf (sp_indexS (i := (k + 1)) ((hlc rfl).dat D_cn0 sub_all) (hlc rfl) Try.underlying23 sz9 rfl hlt) ?_
     refine .i (sp_loadStr (hlc rfl) agg9 sz9) ?_
     refine .i (sp_sGeq (hlc rfl) (hlc rfl)) ?_
     refine .done ⟨by kernel_rfl, fun a24 g W24 y24 zz24 hk hg hV hR hP => ?_⟩
     obtain ⟨e36, -, -, -, -, -, -, -, -, -, -, -, -⟩ := hV
     replace e1 := (hR 1 rfl).trans e1
     replace e3 := (hR 3 rfl).trans e3
     replace D_cn0 := D_cn0.ext hk
     replace D_ci0 := D_ci0.ext hk
     replace e36 := e36.q
     replace own_b1_2 := own_b1_2.ext hk
     replace kw := kw.x hk
     clear hR hk hg hP
     refine tail_nil (hK23 _ _ ?_)
     refine wp_cond_split e36 (fun hc => ?_) (fun hc => ?_)
     ·
      have hf : ofE x = 3 := by rw [ofE, if_neg hk, if_pos (.inr (asc_false hlt (by simpa using hc)))]
      refine wp_seq_k fun K25 hK25 => ?_
      refine rg mixed y24 zz24 ?_
      refine .i (v := (.agg #[(.int .u8 (0)), (.int .i64 (0)), (.string (⟨#[]⟩)), (.slice none 0 0), (.slice none 0 0), (.map none), (.int .i64 (3))])) (sp_build (vs := [(2, (.int .i64 (3)))]) Try.underlying74 z74 (pl74 Try.underlying74) ⟨rfl, Has.cst, trivial⟩ rfl) ?_
      refine .boxOp (v := (.agg #[(.int .u8 (0)), (.int .i64 (0)), (.string (⟨#[]⟩)), (.slice none 0 0), (.slice none 0 0), (.map none), (.int .i64 (3))])) (hlc rfl) ?_
      refine .done ⟨by kernel_rfl, fun a26 g W26 y26 zz26 hk hg hV hR hP => ?_⟩
      obtain ⟨⟨b38_26, e38, hb38, own_b38_26⟩, -, -⟩ := hV
      have lo_b38_26 : w.heap.size ≤ b38_26 := Nat.le_trans kw.size (hg.lo _ _ hb38)
      have ne_b1_2_b38_26 : b1_2 ≠ b38_26 := Nat.ne_of_lt (Nat.lt_of_lt_of_le own_b1_2.lt (hg.lo _ _ hb38))
      have own_b38_26 : Own W26 b38_26 [(.int .u8 (0)), (.int .i64 (0)), (.string (⟨#[]⟩)), (.slice none 0 0), (.slice none 0 0), (.map none), (.int .i64 (3))] 74 := own_b38_26
      replace D_cn0 := sa_more D_cn0 hk [b38_26] (in_cons (hg.lo _ _ hb38) in_nil)
      replace D_ci0 := sa_more D_ci0 hk [b38_26] (in_cons (hg.lo _ _ hb38) in_nil)
      replace own_b1_2 := own_b1_2.ext hk
      replace kw := kw.x hk
      clear hR hk hg hP hb38
      refine tail_assign (v := (.pointer (some ⟨b38_26, 0, none⟩))) e38 (by rw [y26]; exact Nat.le_of_ble_eq_true rfl) (fun a27 y27 zz27 e2 hr => ?_)
      replace y27 := y27.trans y26; replace zz27 := zz27.trans zz26
      replace e38 := (hr 38 (by decide)).trans e38
      clear hr
      refine tail_nil (hK25 _ _ ?_)
      refine wp_ret ?_
      refine (show bodyPost Try.prog Try.f21 _ .ret _ _ from ret1 rfl zz27 e2 ⟨_, rfl, kw, ?_⟩)
      rw [hf]
      exact ⟨b38_26, rfl, lo_b38_26, own_b38_26⟩
     ·
      have hk1 : sLt x.ns[k] x.ns[k + 1] = true := by simpa using hc
      refine wp_skip (hK22 _ _ ?_)
      refine rg mixed y24 zz24 ?_
      refine .i (sp_move (hbs rfl e3)) ?_
      refine .i (sp_add (hlc rfl) Has.cst (i64_in (by omega))) ?_
      refine .i (sp_assign (hlc rfl)) ?_
      refine .done ⟨by kernel_rfl, fun a28 g W28 y28 zz28 hk hg hV hR hP => ?_⟩
      obtain ⟨e3, -, -, -⟩ := hV
      replace e1 := (hR 1 rfl).trans e1
      replace D_cn0 := D_cn0.ext hk
      replace D_ci0 := D_ci0.ext hk
      replace e3 := e3.q
      replace own_b1_2 := own_b1_2.ext hk
      replace kw := kw.x hk
      clear hR hk hg hP
      exact tail_nil ⟨by omega, y28, zz28, kw, e1, (e3.trans (congrArg (Value.int .i64) (by omega))), own_b1_2, D_cn0, D_ci0, fun i h hi => by rcases Nat.lt_succ_iff_lt_or_eq.1 hi with h1 | h1; exact hinv i h h1; subst h1; exact hk1⟩
    ·
     exfalso
     have hge := of_decide_eq_false hc
     have ha : asc x.ns = true := (asc_iff x.ns).2 fun i hi => hinv i hi (by omega)
     rw [ofE, if_neg hk, if_neg (by rintro (h | h); exact h hl; rw [ha] at h; cases h)] at hof
     exact hof rfl

end Go.Proofs.Ytnobijngkpflcaa
