import Derived.Test.YtnobijngkpflcaaC4
namespace Go.Proofs.Ytnobijngkpflcaa
open Go.Eng
set_option maxRecDepth 100000 in
theorem may_all : ∀ (n : Nat) (x : V), x.cnt ≤ n → n ≤ 1073741824 → ∀ (nested : Nat) (left : Int), nested ≤ 12 → 0 ≤ left → left ≤ 8192 → ∀ (w : World) (S : BSet) (v : Value) (bL : Nat), (∀ o, ¬ S bL o) → Own w bL [.int .i64 left] 3 → Rd w S x.d v →
    Calls Try.prog 134 #[v, .int .i64 nested, .pointer (some ⟨bL, 0, none⟩)] w (RetB w bL fun u w' => u = .bool (mayV x nested left).1 ∧ Own w' bL [.int .i64 (mayV x nested left).2] 3) := by
  intro n
  induction n with
  | zero => intro x hx; cases x; simp [V.cnt] at hx
  | succ n ih =>
  intro x hx hn nested left hnst hl0 hl w S v bL hbL own_bL hv
  have hM : ∀ b ∈ [bL], ∀ o, ¬ S b o := by simpa using hbL
  have hcx := cnt_eq x
  have hlx := len_cnts x.xs
  have hme := mayV_eq x nested left
  obtain ⟨cn0a, cn0c, ci0a, ci0c, ev, ht0, D_cn0, D_ci0⟩ := rdV_out (rd_argM (M := [bL]) hv hM)
  subst ev
  refine enter Try.func134 rfl Try.ntmps134 (lbr rfl) fun a0 y0 zz0 harg => ?_
  have e0 : sl a0 0 = (.agg #[(.int .u8 (x.k)), (.int .i64 (x.n)), (.string (x.t)), (.slice cn0a (x.ns.length) cn0c), (.slice ci0a (x.xs.length) ci0c)]) := harg 0 (lbr rfl)
  have e1 : sl a0 1 = (.int .i64 ((nested : Nat))) := harg 1 (lbr rfl)
  have e2 : sl a0 2 = (.pointer (some ⟨bL, 0, none⟩)) := harg 2 (lbr rfl)
  have kw := Keeps.refl (fun k => k ≠ bL) w
  clear harg
  refine wp_seq_k fun K1 hK1 => ?_
  refine rg mixed y0 zz0 ?_
  refine .boxOp (v := (.agg #[(.int .u8 (x.k)), (.int .i64 (x.n)), (.string (x.t)), (.slice cn0a (x.ns.length) cn0c), (.slice ci0a (x.xs.length) ci0c)])) (hbs rfl e0) ?_
  refine .i (sp_assign Has.cst) ?_
  refine .done ⟨by kernel_rfl, fun a2 g W2 y2 zz2 hk hg hV hR hP => ?_⟩
  obtain ⟨-, ⟨b3_2, e3, hb3, own_b3_2⟩, -⟩ := hV
  have lo_b3_2 : w.heap.size ≤ b3_2 := Nat.le_trans kw.size (hg.lo _ _ hb3)
  have ne_bL_b3_2 : bL ≠ b3_2 := Nat.ne_of_lt (Nat.lt_of_lt_of_le own_bL.lt (hg.lo _ _ hb3))
  have own_b3_2 : Own W2 b3_2 [(.int .u8 (x.k)), (.int .i64 (x.n)), (.string (x.t)), (.slice cn0a (x.ns.length) cn0c), (.slice ci0a (x.xs.length) ci0c)] 33 := own_b3_2
  replace e1 := (hR 1 rfl).trans e1
  replace e2 := (hR 2 rfl).trans e2
  replace D_cn0 := sa_more D_cn0 hk [b3_2] (in_cons (hg.lo _ _ hb3) in_nil)
  replace D_ci0 := sa_more D_ci0 hk [b3_2] (in_cons (hg.lo _ _ hb3) in_nil)
  replace own_bL := own_bL.ext hk
  replace kw := kw.x hk
  clear hR hk hg hP hb3
  refine tail_nil (hK1 _ _ ?_)
  refine wp_seq_k fun K3 hK3 => ?_
  refine rg mixed y2 zz2 ?_
  refine .i (sp_move (hbs rfl e2)) ?_
  refine .i (sp_nilP (hlc rfl)) ?_
  refine .i (lo1 (hlc rfl) own_bL trivial agg3 sz3 rfl) ?_
  refine .i (sp_sub (hlc rfl) Has.cst (i64_in (by omega))) ?_
  refine .i (sp_nilP (hlc rfl)) ?_
  refine .done ⟨by kernel_rfl, fun a4 g W4 y4 zz4 hk hg hV hR hP => ?_⟩
  obtain ⟨e13, e12, -, -, -, -⟩ := hV
  replace e1 := (hR 1 rfl).trans e1
  replace e2 := (hR 2 rfl).trans e2
  replace e3 := (hR 3 rfl).trans e3
  replace D_cn0 := D_cn0.ext hk
  replace D_ci0 := D_ci0.ext hk
  have e12 : sl a4 12 = (.int .i64 ((left : Int) - (1 : Int))) := e12
  have e13 : sl a4 13 = (.pointer (some ⟨bL, 0, none⟩)) := e13
  replace own_bL := own_bL.ext hk
  replace own_b3_2 := own_b3_2.ext hk
  replace kw := kw.x hk
  clear hR hk hg hP
  refine tail_store (b := bL) (o := 0) (v := (.int .i64 ((left : Int) - (1 : Int)))) e13 e12 sz3 rfl own_bL (lbr rfl) (all_cons rfl all_nil) (fun W5 hs own_bL => ?_)
  have own_bL : Own W5 bL [(.int .i64 ((left : Int) - (1 : Int)))] 3 := own_bL
  replace own_b3_2 := own_store own_b3_2 hs ne_bL_b3_2.symm
  replace D_cn0 := sa_store D_cn0 hs (by simp)
  replace D_ci0 := sa_store D_ci0 hs (by simp)
  replace kw := kw.trans hs
  clear hs
  refine tail_nil (hK3 _ _ ?_)
  refine wp_seq_k fun K6 hK6 => ?_
  refine wp_seq_k fun K7 hK7 => ?_
  refine rg mixed y4 zz4 ?_
  refine .i (sp_move (hbs rfl e2)) ?_
  refine .i (sp_nilP (hlc rfl)) ?_
  refine .i (lo1 (hlc rfl) own_bL trivial agg3 sz3 rfl) ?_
  refine .i (sp_lss (hlc rfl) Has.cst) ?_
  refine .i (sp_move (hlc rfl)) ?_
  refine .e (t := 18) (v := (.agg #[(.int .u8 (x.k)), (.int .i64 (x.n)), (.string (x.t)), (.slice cn0a (x.ns.length) cn0c), (.slice ci0a (x.xs.length) ci0c)])) rfl (hlc rfl) (fun hg => loA (hbs rfl e3) own_b3_2 trivial agg33 sz33 rfl rfl) ?_
  refine .e (t := 18) (v := (.bool (properB (x)))) rfl (hlc rfl) (fun hg => sp_call1 (φ1 := IsD (SA w S [b3_2, bL]) (V.d (x))) ent151 (((hlc rfl).undE hg).dat (rdV_in (x := x) ht0 D_cn0 D_ci0 : Rd W5 (SA w S [b3_2, bL]) (V.d (x)) _) sub_all) (fun g u1 W hk hgk h1 => proper_ok (x) W _ _ h1)) ?_
  refine .e (t := 18) rfl (hlc rfl) (fun hg => sp_not ((hlc rfl).undE hg)) ?_
  refine .i (sp_or (hlc rfl) ((hlc rfl).weak fun hq => hq)) ?_
  refine .done ⟨by kernel_rfl, fun a8 g W8 y8 zz8 hk hg hV hR hP => ?_⟩
  obtain ⟨e22, -, -, -, -, -, -, -, -, -⟩ := hV
  replace e1 := (hR 1 rfl).trans e1
  replace e2 := (hR 2 rfl).trans e2
  replace e3 := (hR 3 rfl).trans e3
  replace D_cn0 := D_cn0.ext hk
  replace D_ci0 := D_ci0.ext hk
  replace e22 := e22.q
  replace own_bL := own_bL.ext hk
  replace own_b3_2 := own_b3_2.ext hk
  replace kw := kw.x hk
  clear hR hk hg hP
  refine tail_nil (hK7 _ _ ?_)
  refine wp_cond_split e22 (fun hc => ?_) (fun hc => ?_)
  ·
   rw [if_pos (by rcases (Bool.or_eq_true _ _).mp hc with h | h; exact .inl (of_decide_eq_true h); exact .inr (by simpa using h))] at hme
   have hfin := hme
   refine wp_seq_k fun K9 hK9 => ?_
   refine rg mixed y8 zz8 ?_
   refine .i (sp_assign Has.cst) ?_
   refine .done ⟨by kernel_rfl, fun a10 g W10 y10 zz10 hk hg hV hR hP => ?_⟩
   obtain ⟨e6, -⟩ := hV
   replace D_cn0 := D_cn0.ext hk
   replace D_ci0 := D_ci0.ext hk
   have e6 : sl a10 6 = (.bool (false)) := e6
   replace own_bL := own_bL.ext hk
   replace own_b3_2 := own_b3_2.ext hk
   replace kw := kw.x hk
   clear hR hk hg hP
   refine tail_nil (hK9 _ _ ?_)
   refine wp_ret ?_
   refine (show bodyPost Try.prog Try.f134 _ .ret _ _ from ret1 rfl zz10 e6 ⟨_, rfl, kw, ?_⟩)
   rw [hfin]
   exact ⟨rfl, own_bL⟩
  ·
   have hd := of_decide_eq_false (Bool.or_eq_false_iff.1 hc).1
   have hpp : properB x = true := by simpa using (Bool.or_eq_false_iff.1 hc).2
   rw [if_neg (by rintro (h | h); exact hd h; rw [hpp] at h; cases h)] at hme
   refine wp_skip (hK6 _ _ ?_)
   refine wp_seq_k fun K11 hK11 => ?_
   refine wp_seq_k fun K12 hK12 => ?_
   refine rg mixed y8 zz8 ?_
   refine .i (fo 0 (hbs rfl e3) Try.underlying33 rfl sz5 rfl) ?_
   refine .i (lo1 (hlc rfl) own_b3_2 trivial agg5 sz5 rfl) ?_
   refine .i (sp_neq (hlc rfl) Has.cst) ?_
   refine .i (sp_move (hlc rfl)) ?_
   refine .e (t := 26) rfl (hlc rfl) (fun hg => fo 0 (hbs rfl e3) Try.underlying33 rfl sz5 rfl) ?_
   refine .e (t := 26) rfl (hlc rfl) (fun hg => lo1 ((hlc rfl).undE hg) own_b3_2 trivial agg5 sz5 rfl) ?_
   refine .e (t := 26) rfl (hlc rfl) (fun hg => sp_neq ((hlc rfl).undE hg) Has.cst) ?_
   refine .i (sp_and (hlc rfl) ((hlc rfl).weak fun hq => hq)) ?_
   refine .done ⟨by kernel_rfl, fun a13 g W13 y13 zz13 hk hg hV hR hP => ?_⟩
   obtain ⟨e30, -, -, -, -, -, -, -, -⟩ := hV
   replace e1 := (hR 1 rfl).trans e1
   replace e2 := (hR 2 rfl).trans e2
   replace e3 := (hR 3 rfl).trans e3
   replace D_cn0 := D_cn0.ext hk
   replace D_ci0 := D_ci0.ext hk
   replace e30 := e30.q
   replace own_bL := own_bL.ext hk
   replace own_b3_2 := own_b3_2.ext hk
   replace kw := kw.x hk
   clear hR hk hg hP
   refine tail_nil (hK12 _ _ ?_)
   refine wp_cond_split e30 (fun hc => ?_) (fun hc => ?_)
   ·
    rw [if_pos (by simp at hc; omega)] at hme
    have hfin := hme
    refine wp_seq_k fun K14 hK14 => ?_
    refine rg mixed y13 zz13 ?_
    refine .i (sp_assign Has.cst) ?_
    refine .done ⟨by kernel_rfl, fun a15 g W15 y15 zz15 hk hg hV hR hP => ?_⟩
    obtain ⟨e6, -⟩ := hV
    replace D_cn0 := D_cn0.ext hk
    replace D_ci0 := D_ci0.ext hk
    have e6 : sl a15 6 = (.bool (true)) := e6
    replace own_bL := own_bL.ext hk
    replace own_b3_2 := own_b3_2.ext hk
    replace kw := kw.x hk
    clear hR hk hg hP
    refine tail_nil (hK14 _ _ ?_)
    refine wp_ret ?_
    refine (show bodyPost Try.prog Try.f134 _ .ret _ _ from ret1 rfl zz15 e6 ⟨_, rfl, kw, ?_⟩)
    rw [hfin]
    exact ⟨rfl, own_bL⟩
   ·
    rw [if_neg (by simp at hc; omega)] at hme
    refine wp_skip (hK11 _ _ ?_)
    refine wp_seq_k fun K16 hK16 => ?_
    refine wp_seq_k fun K17 hK17 => ?_
    refine rg mixed y13 zz13 ?_
    refine .i (sp_move (hbs rfl e1)) ?_
    refine .i (sp_eql (hlc rfl) Has.cst) ?_
    refine .done ⟨by kernel_rfl, fun a18 g W18 y18 zz18 hk hg hV hR hP => ?_⟩
    obtain ⟨e32, -, -⟩ := hV
    replace e1 := (hR 1 rfl).trans e1
    replace e2 := (hR 2 rfl).trans e2
    replace e3 := (hR 3 rfl).trans e3
    replace D_cn0 := D_cn0.ext hk
    replace D_ci0 := D_ci0.ext hk
    replace e32 := e32.q
    replace own_bL := own_bL.ext hk
    replace own_b3_2 := own_b3_2.ext hk
    replace kw := kw.x hk
    clear hR hk hg hP
    refine tail_nil (hK17 _ _ ?_)
    refine wp_cond_split e32 (fun hc => ?_) (fun hc => ?_)
    ·
     rw [if_pos (by simp at hc; omega)] at hme
     have hfin := hme
     refine wp_seq_k fun K19 hK19 => ?_
     refine rg mixed y18 zz18 ?_
     refine .i (sp_assign Has.cst) ?_
     refine .done ⟨by kernel_rfl, fun a20 g W20 y20 zz20 hk hg hV hR hP => ?_⟩
     obtain ⟨e6, -⟩ := hV
     replace D_cn0 := D_cn0.ext hk
     replace D_ci0 := D_ci0.ext hk
     have e6 : sl a20 6 = (.bool (false)) := e6
     replace own_bL := own_bL.ext hk
     replace own_b3_2 := own_b3_2.ext hk
     replace kw := kw.x hk
     clear hR hk hg hP
     refine tail_nil (hK19 _ _ ?_)
     refine wp_ret ?_
     refine (show bodyPost Try.prog Try.f134 _ .ret _ _ from ret1 rfl zz20 e6 ⟨_, rfl, kw, ?_⟩)
     rw [hfin]
     exact ⟨rfl, own_bL⟩
    ·
     have hnz : ¬ nested = 0 := by simp at hc; omega
     rw [if_neg hnz] at hme
     refine wp_skip (hK16 _ _ ?_)
     refine wp_seq_k fun K21 hK21 => ?_
     refine wp_seq_k fun K22 hK22 => ?_
     refine rg mixed y18 zz18 ?_
     refine .i (fo 4 (hbs rfl e3) Try.underlying33 rfl sz31 rfl) ?_
     refine .i (lo1 (hlc rfl) own_b3_2 trivial agg31 sz31 rfl) ?_
     refine .i (sp_lenVs Try.underlying31 ((hlc rfl).dat D_ci0 sub_all)) ?_
     refine .i (sp_move Has.cst) ?_
     refine .done ⟨by kernel_rfl, fun a23 g W23 y23 zz23 hk hg hV hR hP => ?_⟩
     obtain ⟨e36, e35, e34, -, -⟩ := hV
     replace e1 := (hR 1 rfl).trans e1
     replace e2 := (hR 2 rfl).trans e2
     replace D_cn0 := D_cn0.ext hk
     replace D_ci0 := D_ci0.ext hk
     have e34 : sl a23 34 = (.slice ci0a (x.xs.length) ci0c) := e34
     have e35 : sl a23 35 = (.int .i64 (x.xs.length)) := e35
     have e36 : sl a23 36 = (.int .i64 (0)) := e36
     replace own_bL := own_bL.ext hk
     replace own_b3_2 := own_b3_2.ext hk
     replace kw := kw.x hk
     clear hR hk hg hP
     refine tail_nil (hK22 _ _ ?_)
     refine wp_block ?_
     replace D_ci0 := sa_less (M' := [bL]) D_ci0 (ls_skip (ls_keep ls_nil))
     refine wp_for (x.xs.length) (fun k a W => ∃ (l2 : Int), a.tmps.size = 47 ∧ a.defers = [] ∧ Keeps (fun k => k ≠ bL) w W ∧ sl a 1 = (.int .i64 ((nested : Nat))) ∧ sl a 2 = (.pointer (some ⟨bL, 0, none⟩)) ∧ sl a 34 = (.slice ci0a (x.xs.length) ci0c) ∧ sl a 35 = (.int .i64 (x.xs.length)) ∧ sl a 36 = (.int .i64 ((k : Nat))) ∧ Own W bL [(.int .i64 (l2))] 3 ∧ Rd W (SA w S [bL]) (valsD (x.xs)) (.slice ci0a (x.xs.length) ci0c) ∧ (mayL x.xs (nested - 1) (left - 1) = mayL (x.xs.drop k) (nested - 1) l2) ∧ (0 ≤ l2) ∧ (l2 ≤ left)) ⟨(left - 1), y23, zz23, kw, e1, e2, e34, e35, (e36.trans (congrArg (Value.int .i64) (rfl))), own_bL, D_ci0, rfl, by omega, by omega⟩ ?_
     clear kw e1 e2 e34 e35 e36 own_bL D_ci0
     rintro k a24 W24 hkk ⟨l2, y24, zz24, kw, e1, e2, e34, e35, e36, own_bL, D_ci0, hin, hl2, hl3⟩
     refine wp_seq_k fun K25 hK25 => ?_
     refine rg mixed y24 zz24 ?_
     refine .i (sp_lss (hbs rfl e36) (hbs rfl e35)) ?_
     refine .done ⟨by kernel_rfl, fun a26 g W26 y26 zz26 hk hg hV hR hP => ?_⟩
     obtain ⟨e37, -⟩ := hV
     replace e1 := (hR 1 rfl).trans e1
     replace e2 := (hR 2 rfl).trans e2
     replace e34 := (hR 34 rfl).trans e34
     replace e35 := (hR 35 rfl).trans e35
     replace e36 := (hR 36 rfl).trans e36
     replace D_ci0 := D_ci0.ext hk
     replace e37 := e37.q
     replace own_bL := own_bL.ext hk
     replace kw := kw.x hk
     clear hR hk hg hP
     refine tail_nil (hK25 _ _ ?_)
     refine wp_seq_k fun K27 hK27 => ?_
     refine wp_cond_split e37 (fun hc => ?_) (fun hc => ?_)
     ·
      have hlt : k < x.xs.length := by simpa using hc
      have hdr := List.drop_eq_getElem_cons hlt
      rw [hdr, mayL] at hin
      have hce := cnt_elem hlt
      have hvl := mayV_le x.xs[k] (nested - 1) l2 hl2
      refine wp_skip (hK27 _ _ ?_)
      refine wp_seq_k fun K28 hK28 => ?_
      refine wp_block ?_
      refine wp_seq_k fun K29 hK29 => ?_
      refine rg mixed y26 zz26 ?_
      refine .rf (sp_indexV (i := k) ((hbs rfl e34).dat D_ci0 sub_all) (hbs rfl e36) Try.underlying31 sz33 rfl hlt) ?_
      refine .da (sp_loadV (hlc rfl) agg33 sz33) ?_
      refine .alloc z33 ?_
      refine .done ⟨by kernel_rfl, fun a30 g W30 y30 zz30 hk hg hV hR hP => ?_⟩
      obtain ⟨⟨b8_30, e8, hb8, own_b8_30⟩, e39, -, -⟩ := hV
      have lo_b8_30 : w.heap.size ≤ b8_30 := Nat.le_trans kw.size (hg.lo _ _ hb8)
      have ne_bL_b8_30 : bL ≠ b8_30 := Nat.ne_of_lt (Nat.lt_of_lt_of_le own_bL.lt (hg.lo _ _ hb8))
      have own_b8_30 : Own W30 b8_30 [(.int .u8 (0)), (.int .i64 (0)), (.string (⟨#[]⟩)), (.slice none 0 0), (.slice none 0 0)] 33 := own_b8_30
      replace e1 := (hR 1 rfl).trans e1
      replace e2 := (hR 2 rfl).trans e2
      replace e34 := (hR 34 rfl).trans e34
      replace e35 := (hR 35 rfl).trans e35
      replace e36 := (hR 36 rfl).trans e36
      replace D_ci0 := sa_more D_ci0 hk [b8_30] (in_cons (hg.lo _ _ hb8) in_nil)
      obtain ⟨v39_30, ev⟩ : ∃ v, sl a30 39 = v := ⟨_, rfl⟩
      rw [ev] at e39
      have D_v39_30 : Rd W30 (SA w S [b8_30, bL]) (V.d (x.xs[k]'hlt)) v39_30 := sa_end e39 hk [b8_30] (in_cons ⟨_, hb8⟩ in_nil)
      replace e39 := ev; clear ev
      obtain ⟨cn39_30a, cn39_30c, ci39_30a, ci39_30c, ev, ht_v39_30, D_cn39_30, D_ci39_30⟩ := rdV_out D_v39_30
      subst ev; clear D_v39_30
      replace own_bL := own_bL.ext hk
      replace kw := kw.x hk
      clear hR hk hg hP hb8
      refine tail_store (b := b8_30) (o := 0) (v := (.agg #[(.int .u8 ((x.xs[k]'hlt).k)), (.int .i64 ((x.xs[k]'hlt).n)), (.string ((x.xs[k]'hlt).t)), (.slice cn39_30a (((x.xs[k]'hlt).ns).length) cn39_30c), (.slice ci39_30a (((x.xs[k]'hlt).xs).length) ci39_30c)])) e8 e39 sz33 rfl own_b8_30 (lbr rfl) (all_cons rfl (all_cons rfl (all_cons rfl (all_cons rfl (all_cons rfl all_nil))))) (fun W31 hs own_b8_30 => ?_)
      have own_b8_30 : Own W31 b8_30 [(.int .u8 ((x.xs[k]'hlt).k)), (.int .i64 ((x.xs[k]'hlt).n)), (.string ((x.xs[k]'hlt).t)), (.slice cn39_30a (((x.xs[k]'hlt).ns).length) cn39_30c), (.slice ci39_30a (((x.xs[k]'hlt).xs).length) ci39_30c)] 33 := own_b8_30
      replace own_bL := own_store own_bL hs ne_bL_b8_30
      replace D_ci0 := sa_store D_ci0 hs (by simp)
      replace D_cn39_30 := sa_store D_cn39_30 hs (by simp)
      replace D_ci39_30 := sa_store D_ci39_30 hs (by simp)
      replace kw := keeps_store kw hs lo_b8_30
      clear hs
      refine tail_nil (hK29 _ _ ?_)
      refine wp_seq_k fun K32 hK32 => ?_
      refine wp_reg (fun k => k ≠ bL) (Ψ := fun W => Own W bL [(.int .i64 (l2))] 3) mixed y30 zz30 (fun W W' k h => h.ext k) own_bL ?_
      refine .i (v := (.agg #[(.int .u8 ((x.xs[k]'hlt).k)), (.int .i64 ((x.xs[k]'hlt).n)), (.string ((x.xs[k]'hlt).t)), (.slice cn39_30a (((x.xs[k]'hlt).ns).length) cn39_30c), (.slice ci39_30a (((x.xs[k]'hlt).xs).length) ci39_30c)])) (loA (hbs rfl e8) own_b8_30 ne_bL_b8_30.symm agg33 sz33 rfl rfl) ?_
      refine .i (sp_move (hbs rfl e1)) ?_
      refine .i (sp_sub (hlc rfl) Has.cst (i64_in (by omega))) ?_
      refine .i (sp_move (hbs rfl e2)) ?_
      refine .callW3 (φ1 := IsD (SA w S [b8_30, bL]) (V.d ((x.xs[k]'hlt)))) (φ2 := Is (.int .i64 (((nested : Nat) : Int) - (1 : Int)))) (φ3 := Is (.pointer (some ⟨bL, 0, none⟩))) (φ := Is (.bool ((mayV ((x.xs[k]'hlt)) (nested - 1) (l2)).1))) (Ψ' := fun W => Own W bL [(.int .i64 ((mayV ((x.xs[k]'hlt)) (nested - 1) (l2)).2))] 3) ent134 ((hlc rfl).dat (rdV_in (x := (x.xs[k]'hlt)) ht_v39_30 D_cn39_30 D_ci39_30 : Rd W31 (SA w S [b8_30, bL]) (V.d ((x.xs[k]'hlt))) _) (sub_ne (by simp))) (hlc rfl) (hlc rfl) (st_is _) (fun W W' k h => h.ext k) (fun g u1 u2 u3 W hk hg h1 h2 h3 hP => by have h2 : u2 = _ := h2; subst u2; have h3 : u3 = _ := h3; subst u3; rw [show ((nested : Nat) : Int) - (1 : Int) = ((nested - 1 : Nat) : Int) by omega]; exact ih ((x.xs[k]'hlt)) (by omega) (by omega) (nested - 1) (l2) (by omega) (by omega) (by omega) W _ _ bL (fun o h => h.1.2.2 (by simp)) hP h1) ?_
      refine .i (sp_not (hlc rfl)) ?_
      refine .done ⟨by kernel_rfl, fun a33 g W33 y33 zz33 hk hg hV hR hP => ?_⟩
      obtain ⟨e45, -, -, -, -, -, -⟩ := hV
      replace e1 := (hR 1 rfl).trans e1
      replace e2 := (hR 2 rfl).trans e2
      replace e34 := (hR 34 rfl).trans e34
      replace e35 := (hR 35 rfl).trans e35
      replace e36 := (hR 36 rfl).trans e36
      replace D_ci0 := sa_store D_ci0 hk (by simp)
      replace D_cn39_30 := sa_store D_cn39_30 hk (by simp)
      replace D_ci39_30 := sa_store D_ci39_30 hk (by simp)
      replace e45 := e45.q
      replace own_b8_30 := own_store own_b8_30 hk ne_bL_b8_30.symm
      replace own_bL : Own W33 bL [(.int .i64 ((mayV ((x.xs[k]'hlt)) (nested - 1) (l2)).2))] 3 := hP
      replace kw := kw.trans hk
      clear hR hk hg hP
      refine tail_nil (hK32 _ _ ?_)
      refine wp_cond_split e45 (fun hc => ?_) (fun hc => ?_)
      ·
       have hok : (mayV x.xs[k] (nested - 1) l2).1 = false := by simpa using hc
       have hfin : mayV x nested left = (false, (mayV x.xs[k] (nested - 1) l2).2) := by rw [hme, hin, if_pos hok]
       refine wp_seq_k fun K34 hK34 => ?_
       refine rg mixed y33 zz33 ?_
       refine .i (sp_assign Has.cst) ?_
       refine .done ⟨by kernel_rfl, fun a35 g W35 y35 zz35 hk hg hV hR hP => ?_⟩
       obtain ⟨e6, -⟩ := hV
       replace D_ci0 := D_ci0.ext hk
       have e6 : sl a35 6 = (.bool (false)) := e6
       replace own_bL := own_bL.ext hk
       replace own_b8_30 := own_b8_30.ext hk
       replace kw := kw.x hk
       clear hR hk hg hP
       refine tail_nil (hK34 _ _ ?_)
       refine wp_ret ?_
       refine (show bodyPost Try.prog Try.f134 _ .ret _ _ from ret1 rfl zz35 e6 ⟨_, rfl, kw, ?_⟩)
       rw [hfin]
       exact ⟨rfl, own_bL⟩
      ·
       have hok : (mayV x.xs[k] (nested - 1) l2).1 = true := by simpa using hc
       rw [if_neg (by simp [hok])] at hin
       have hvp := hvl.2.2 hok
       refine wp_skip (hK28 _ _ ?_)
       refine rg mixed y33 zz33 ?_
       refine .i (sp_add (hbs rfl e36) Has.cst (i64_in (by omega))) ?_
       refine .i (sp_move (hlc rfl)) ?_
       refine .done ⟨by kernel_rfl, fun a36 g W36 y36 zz36 hk hg hV hR hP => ?_⟩
       obtain ⟨e36, -, -⟩ := hV
       replace e1 := (hR 1 rfl).trans e1
       replace e2 := (hR 2 rfl).trans e2
       replace e34 := (hR 34 rfl).trans e34
       replace e35 := (hR 35 rfl).trans e35
       replace D_ci0 := D_ci0.ext hk
       replace e36 := e36.q
       replace own_bL := own_bL.ext hk
       replace own_b8_30 := own_b8_30.ext hk
       replace kw := kw.x hk
       clear hR hk hg hP
       exact tail_nil ⟨hlt, _, y36, zz36, kw, e1, e2, e34, e35, (e36.trans (congrArg (Value.int .i64) (by simp))), own_bL, (sa_less D_ci0 (ls_skip (ls_keep ls_nil))), hin, hvp, by omega⟩
     ·
      have hge0 : ¬ k < x.xs.length := by simpa using hc
      have hge : k = x.xs.length := by omega
      have hfin : mayV x nested left = (true, l2) := by rw [hme, hin, hge, List.drop_length]; rfl
      refine wp_exit (hK21 _ _ ?_)
      refine wp_seq_k fun K37 hK37 => ?_
      refine rg mixed y26 zz26 ?_
      refine .i (sp_assign Has.cst) ?_
      refine .done ⟨by kernel_rfl, fun a38 g W38 y38 zz38 hk hg hV hR hP => ?_⟩
      obtain ⟨e6, -⟩ := hV
      replace D_ci0 := D_ci0.ext hk
      have e6 : sl a38 6 = (.bool (true)) := e6
      replace own_bL := own_bL.ext hk
      replace kw := kw.x hk
      clear hR hk hg hP
      refine tail_nil (hK37 _ _ ?_)
      refine wp_ret ?_
      refine (show bodyPost Try.prog Try.f134 _ .ret _ _ from ret1 rfl zz38 e6 ⟨_, rfl, kw, ?_⟩)
      rw [hfin]
      exact ⟨rfl, own_bL⟩

set_option maxRecDepth 100000 in
theorem May_ok (x : V) (hx : x.cnt ≤ 1073741824) (w : World) (S : BSet) (v : Value) (hv : Rd w S x.d v) : Calls Try.prog 76 #[v] w (Ret w fun u _ => u = .bool (mayB x)) := by
  obtain ⟨cn0a, cn0c, ci0a, ci0c, ev, ht0, D_cn0, D_ci0⟩ := rdV_out (rd_arg hv)
  subst ev
  refine enter Try.func76 rfl Try.ntmps76 (lbr rfl) fun a0 y0 zz0 harg => ?_
  have e0 : sl a0 0 = (.agg #[(.int .u8 (x.k)), (.int .i64 (x.n)), (.string (x.t)), (.slice cn0a (x.ns.length) cn0c), (.slice ci0a (x.xs.length) ci0c)]) := harg 0 (lbr rfl)
  have kw := Keeps.refl All w
  clear harg
  refine wp_seq_k fun K1 hK1 => ?_
  refine rg mixed y0 zz0 ?_
  refine .boxOp (v := (.agg #[(.int .u8 (x.k)), (.int .i64 (x.n)), (.string (x.t)), (.slice cn0a (x.ns.length) cn0c), (.slice ci0a (x.xs.length) ci0c)])) (hbs rfl e0) ?_
  refine .i (sp_assign Has.cst) ?_
  refine .done ⟨by kernel_rfl, fun a2 g W2 y2 zz2 hk hg hV hR hP => ?_⟩
  obtain ⟨-, ⟨b1_2, e1, hb1, own_b1_2⟩, -⟩ := hV
  have lo_b1_2 : w.heap.size ≤ b1_2 := Nat.le_trans kw.size (hg.lo _ _ hb1)
  have own_b1_2 : Own W2 b1_2 [(.int .u8 (x.k)), (.int .i64 (x.n)), (.string (x.t)), (.slice cn0a (x.ns.length) cn0c), (.slice ci0a (x.xs.length) ci0c)] 33 := own_b1_2
  replace D_cn0 := sa_more D_cn0 hk [b1_2] (in_cons (hg.lo _ _ hb1) in_nil)
  replace D_ci0 := sa_more D_ci0 hk [b1_2] (in_cons (hg.lo _ _ hb1) in_nil)
  replace kw := kw.x hk
  clear hR hk hg hP hb1
  refine tail_nil (hK1 _ _ ?_)
  refine wp_seq_k fun K3 hK3 => ?_
  refine rg mixed y2 zz2 ?_
  refine .alloc z3 ?_
  refine .done ⟨by kernel_rfl, fun a4 g W4 y4 zz4 hk hg hV hR hP => ?_⟩
  obtain ⟨⟨b3_4, e3, hb3, own_b3_4⟩, -⟩ := hV
  have lo_b3_4 : w.heap.size ≤ b3_4 := Nat.le_trans kw.size (hg.lo _ _ hb3)
  have ne_b1_2_b3_4 : b1_2 ≠ b3_4 := Nat.ne_of_lt (Nat.lt_of_lt_of_le own_b1_2.lt (hg.lo _ _ hb3))
  have own_b3_4 : Own W4 b3_4 [(.int .i64 (0))] 3 := own_b3_4
  replace e1 := (hR 1 rfl).trans e1
  replace D_cn0 := sa_more D_cn0 hk [b3_4] (in_cons (hg.lo _ _ hb3) in_nil)
  replace D_ci0 := sa_more D_ci0 hk [b3_4] (in_cons (hg.lo _ _ hb3) in_nil)
  replace own_b1_2 := own_b1_2.ext hk
  replace kw := kw.x hk
  clear hR hk hg hP hb3
  refine tail_store (b := b3_4) (o := 0) (v := (.int .i64 (8192))) e3 rfl sz3 rfl own_b3_4 (lbr rfl) (all_cons rfl all_nil) (fun W5 hs own_b3_4 => ?_)
  have own_b3_4 : Own W5 b3_4 [(.int .i64 (8192))] 3 := own_b3_4
  replace own_b1_2 := own_store own_b1_2 hs ne_b1_2_b3_4
  replace D_cn0 := sa_store D_cn0 hs (by simp)
  replace D_ci0 := sa_store D_ci0 hs (by simp)
  replace kw := keeps_store kw hs lo_b3_4
  clear hs
  refine tail_nil (hK3 _ _ ?_)
  refine wp_seq_k fun K6 hK6 => ?_
  refine wp_reg (fun k => k ≠ b3_4) (Ψ := fun W => Own W b3_4 [(.int .i64 (8192))] 3) mixed y4 zz4 (fun W W' k h => h.ext k) own_b3_4 ?_
  refine .i (v := (.agg #[(.int .u8 (x.k)), (.int .i64 (x.n)), (.string (x.t)), (.slice cn0a (x.ns.length) cn0c), (.slice ci0a (x.xs.length) ci0c)])) (loA (hbs rfl e1) own_b1_2 ne_b1_2_b3_4 agg33 sz33 rfl rfl) ?_
  refine .callW3 (φ1 := IsD (SA w S [b3_4, b1_2]) (V.d (x))) (φ2 := Is (.int .i64 (12))) (φ3 := Is (.pointer (some ⟨b3_4, 0, none⟩))) (φ := Is (.bool ((mayV (x) (12) (8192)).1))) (Ψ' := fun W => Own W b3_4 [(.int .i64 ((mayV (x) (12) (8192)).2))] 3) ent134 ((hlc rfl).dat (rdV_in (x := x) ht0 D_cn0 D_ci0 : Rd W5 (SA w S [b3_4, b1_2]) (V.d (x)) _) (sub_ne (by simp))) Has.cst (hbs rfl e3) (st_is _) (fun W W' k h => h.ext k) (fun g u1 u2 u3 W hk hg h1 h2 h3 hP => by have h2 : u2 = _ := h2; subst u2; have h3 : u3 = _ := h3; subst u3; exact may_all _ (x) (Nat.le_refl _) (by omega) (12) (8192) (by omega) (by omega) (by omega) W _ _ b3_4 (fun o h => h.1.2.2 (by simp)) hP h1) ?_
  refine .i (sp_assign (hlc rfl)) ?_
  refine .done ⟨by kernel_rfl, fun a7 g W7 y7 zz7 hk hg hV hR hP => ?_⟩
  obtain ⟨e2, -, -, -⟩ := hV
  replace D_cn0 := sa_store D_cn0 hk (by simp)
  replace D_ci0 := sa_store D_ci0 hk (by simp)
  have e2 : sl a7 2 = (.bool ((mayV (x) (12) (8192)).1)) := e2
  replace own_b1_2 := own_store own_b1_2 hk ne_b1_2_b3_4
  replace own_b3_4 : Own W7 b3_4 [(.int .i64 ((mayV (x) (12) (8192)).2))] 3 := hP
  replace kw := keeps_store kw hk lo_b3_4
  clear hR hk hg hP
  refine tail_nil (hK6 _ _ ?_)
  refine wp_ret ?_
  refine (show bodyPost Try.prog Try.f76 _ .ret _ _ from ret1 rfl zz7 e2 ⟨_, rfl, kw, ?_⟩)
  exact rfl

end Go.Proofs.Ytnobijngkpflcaa
