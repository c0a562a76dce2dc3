import Derived.Test.YtnobijngkpflcaaH1
namespace Go.Proofs.Ytnobijngkpflcaa
open Go.Eng
set_option maxRecDepth 100000 in
theorem refText_ok (t : ByteArray) (w : World) : Calls Try.prog 78 #[.string t] w (Ret w fun u _ => u = .agg #[.int .u8 3, .int .i64 0, .string t, .slice none 0 0, .slice none 0 0]) := by
  refine enter Try.func78 rfl Try.ntmps78 (lbr rfl) fun a0 y0 zz0 harg => ?_
  have e0 : sl a0 0 = (.string (t)) := harg 0 (lbr rfl)
  have kw := Keeps.refl All w
  clear harg
  refine wp_seq_k fun K1 hK1 => ?_
  refine rg mixed y0 zz0 ?_
  refine .alloc z33 ?_
  refine .done ⟨by kernel_rfl, fun a2 g W2 y2 zz2 hk hg hV hR hP => ?_⟩
  obtain ⟨⟨b2_2, e2, hb2, own_b2_2⟩, -⟩ := hV
  have lo_b2_2 : w.heap.size ≤ b2_2 := Nat.le_trans kw.size (hg.lo _ _ hb2)
  have own_b2_2 : Own W2 b2_2 [(.int .u8 (0)), (.int .i64 (0)), (.string (⟨#[]⟩)), (.slice none 0 0), (.slice none 0 0)] 33 := own_b2_2
  replace e0 := (hR 0 rfl).trans e0
  replace kw := kw.x hk
  clear hR hk hg hP hb2
  refine tail_nil (hK1 _ _ ?_)
  refine wp_seq_k fun K3 hK3 => ?_
  refine rg mixed y2 zz2 ?_
  refine .i (sp_move (hbs rfl e0)) ?_
  refine .i (v := (.agg #[(.int .u8 (3)), (.int .i64 (0)), (.string (t)), (.slice none 0 0), (.slice none 0 0)])) (sp_build (vs := [(0, (.int .u8 (3))), (2, (.string (t)))]) Try.underlying33 z33 (pl33 Try.underlying33) ⟨rfl, Has.cst, rfl, (hlc rfl), trivial⟩ rfl) ?_
  refine .done ⟨by kernel_rfl, fun a4 g W4 y4 zz4 hk hg hV hR hP => ?_⟩
  obtain ⟨e4, -, -⟩ := hV
  replace e2 := (hR 2 rfl).trans e2
  replace e4 := e4.q
  replace own_b2_2 := own_b2_2.ext hk
  replace kw := kw.x hk
  clear hR hk hg hP
  refine tail_store (b := b2_2) (o := 0) (v := (.agg #[(.int .u8 (3)), (.int .i64 (0)), (.string (t)), (.slice none 0 0), (.slice none 0 0)])) e2 e4 sz33 rfl own_b2_2 (lbr rfl) (all_cons rfl (all_cons rfl (all_cons rfl (all_cons rfl (all_cons rfl all_nil))))) (fun W5 hs own_b2_2 => ?_)
  have own_b2_2 : Own W5 b2_2 [(.int .u8 (3)), (.int .i64 (0)), (.string (t)), (.slice none 0 0), (.slice none 0 0)] 33 := own_b2_2
  replace kw := keeps_store kw hs lo_b2_2
  clear hs
  refine tail_nil (hK3 _ _ ?_)
  refine wp_ret ?_
  refine (show bodyPost Try.prog Try.f78 _ .ret _ _ from retC (v := (.agg #[(.int .u8 (3)), (.int .i64 (0)), (.string (t)), (.slice none 0 0), (.slice none 0 0)])) rfl zz4 e2 own_b2_2 agg33 sz33 rfl (fun h => by cases h) rfl ⟨_, rfl, kw, ?_⟩)
  exact rfl

set_option maxRecDepth 100000 in
theorem refNum_ok (n : Int) (w : World) : Calls Try.prog 125 #[.int .i64 n] w (Ret w fun u _ => u = .agg #[.int .u8 2, .int .i64 n, .string ⟨#[]⟩, .slice none 0 0, .slice none 0 0]) := by
  refine enter Try.func125 rfl Try.ntmps125 (lbr rfl) fun a0 y0 zz0 harg => ?_
  have e0 : sl a0 0 = (.int .i64 (n)) := harg 0 (lbr rfl)
  have kw := Keeps.refl All w
  clear harg
  refine wp_seq_k fun K1 hK1 => ?_
  refine rg mixed y0 zz0 ?_
  refine .alloc z33 ?_
  refine .done ⟨by kernel_rfl, fun a2 g W2 y2 zz2 hk hg hV hR hP => ?_⟩
  obtain ⟨⟨b2_2, e2, hb2, own_b2_2⟩, -⟩ := hV
  have lo_b2_2 : w.heap.size ≤ b2_2 := Nat.le_trans kw.size (hg.lo _ _ hb2)
  have own_b2_2 : Own W2 b2_2 [(.int .u8 (0)), (.int .i64 (0)), (.string (⟨#[]⟩)), (.slice none 0 0), (.slice none 0 0)] 33 := own_b2_2
  replace e0 := (hR 0 rfl).trans e0
  replace kw := kw.x hk
  clear hR hk hg hP hb2
  refine tail_nil (hK1 _ _ ?_)
  refine wp_seq_k fun K3 hK3 => ?_
  refine rg mixed y2 zz2 ?_
  refine .i (sp_move (hbs rfl e0)) ?_
  refine .i (v := (.agg #[(.int .u8 (2)), (.int .i64 (n)), (.string (⟨#[]⟩)), (.slice none 0 0), (.slice none 0 0)])) (sp_build (vs := [(0, (.int .u8 (2))), (1, (.int .i64 (n)))]) Try.underlying33 z33 (pl33 Try.underlying33) ⟨rfl, Has.cst, rfl, (hlc rfl), trivial⟩ rfl) ?_
  refine .done ⟨by kernel_rfl, fun a4 g W4 y4 zz4 hk hg hV hR hP => ?_⟩
  obtain ⟨e4, -, -⟩ := hV
  replace e2 := (hR 2 rfl).trans e2
  replace e4 := e4.q
  replace own_b2_2 := own_b2_2.ext hk
  replace kw := kw.x hk
  clear hR hk hg hP
  refine tail_store (b := b2_2) (o := 0) (v := (.agg #[(.int .u8 (2)), (.int .i64 (n)), (.string (⟨#[]⟩)), (.slice none 0 0), (.slice none 0 0)])) e2 e4 sz33 rfl own_b2_2 (lbr rfl) (all_cons rfl (all_cons rfl (all_cons rfl (all_cons rfl (all_cons rfl all_nil))))) (fun W5 hs own_b2_2 => ?_)
  have own_b2_2 : Own W5 b2_2 [(.int .u8 (2)), (.int .i64 (n)), (.string (⟨#[]⟩)), (.slice none 0 0), (.slice none 0 0)] 33 := own_b2_2
  replace kw := keeps_store kw hs lo_b2_2
  clear hs
  refine tail_nil (hK3 _ _ ?_)
  refine wp_ret ?_
  refine (show bodyPost Try.prog Try.f125 _ .ret _ _ from retC (v := (.agg #[(.int .u8 (2)), (.int .i64 (n)), (.string (⟨#[]⟩)), (.slice none 0 0), (.slice none 0 0)])) rfl zz4 e2 own_b2_2 agg33 sz33 rfl (fun h => by cases h) rfl ⟨_, rfl, kw, ?_⟩)
  exact rfl

set_option maxRecDepth 100000 in
theorem pkText_ok (t : ByteArray) (w : World) : Calls Try.prog 37 #[.string t] w (Ret w fun u _ => u = .agg #[.int .u8 3, .int .i64 0, .string t, .slice none 0 0, .slice none 0 0]) := by
  refine enter Try.func37 rfl Try.ntmps37 (lbr rfl) fun a0 y0 zz0 harg => ?_
  have e0 : sl a0 0 = (.string (t)) := harg 0 (lbr rfl)
  have kw := Keeps.refl All w
  clear harg
  refine wp_seq_k fun K1 hK1 => ?_
  refine rg mixed y0 zz0 ?_
  refine .alloc z33 ?_
  refine .done ⟨by kernel_rfl, fun a2 g W2 y2 zz2 hk hg hV hR hP => ?_⟩
  obtain ⟨⟨b2_2, e2, hb2, own_b2_2⟩, -⟩ := hV
  have lo_b2_2 : w.heap.size ≤ b2_2 := Nat.le_trans kw.size (hg.lo _ _ hb2)
  have own_b2_2 : Own W2 b2_2 [(.int .u8 (0)), (.int .i64 (0)), (.string (⟨#[]⟩)), (.slice none 0 0), (.slice none 0 0)] 33 := own_b2_2
  replace e0 := (hR 0 rfl).trans e0
  replace kw := kw.x hk
  clear hR hk hg hP hb2
  refine tail_nil (hK1 _ _ ?_)
  refine wp_seq_k fun K3 hK3 => ?_
  refine rg mixed y2 zz2 ?_
  refine .i (sp_move (hbs rfl e0)) ?_
  refine .i (v := (.agg #[(.int .u8 (3)), (.int .i64 (0)), (.string (t)), (.slice none 0 0), (.slice none 0 0)])) (sp_build (vs := [(0, (.int .u8 (3))), (2, (.string (t)))]) Try.underlying33 z33 (pl33 Try.underlying33) ⟨rfl, Has.cst, rfl, (hlc rfl), trivial⟩ rfl) ?_
  refine .done ⟨by kernel_rfl, fun a4 g W4 y4 zz4 hk hg hV hR hP => ?_⟩
  obtain ⟨e4, -, -⟩ := hV
  replace e2 := (hR 2 rfl).trans e2
  replace e4 := e4.q
  replace own_b2_2 := own_b2_2.ext hk
  replace kw := kw.x hk
  clear hR hk hg hP
  refine tail_store (b := b2_2) (o := 0) (v := (.agg #[(.int .u8 (3)), (.int .i64 (0)), (.string (t)), (.slice none 0 0), (.slice none 0 0)])) e2 e4 sz33 rfl own_b2_2 (lbr rfl) (all_cons rfl (all_cons rfl (all_cons rfl (all_cons rfl (all_cons rfl all_nil))))) (fun W5 hs own_b2_2 => ?_)
  have own_b2_2 : Own W5 b2_2 [(.int .u8 (3)), (.int .i64 (0)), (.string (t)), (.slice none 0 0), (.slice none 0 0)] 33 := own_b2_2
  replace kw := keeps_store kw hs lo_b2_2
  clear hs
  refine tail_nil (hK3 _ _ ?_)
  refine wp_ret ?_
  refine (show bodyPost Try.prog Try.f37 _ .ret _ _ from retC (v := (.agg #[(.int .u8 (3)), (.int .i64 (0)), (.string (t)), (.slice none 0 0), (.slice none 0 0)])) rfl zz4 e2 own_b2_2 agg33 sz33 rfl (fun h => by cases h) rfl ⟨_, rfl, kw, ?_⟩)
  exact rfl

set_option maxRecDepth 100000 in
theorem pkNum_ok (n : Int) (w : World) : Calls Try.prog 39 #[.int .i64 n] w (Ret w fun u _ => u = .agg #[.int .u8 2, .int .i64 n, .string ⟨#[]⟩, .slice none 0 0, .slice none 0 0]) := by
  refine enter Try.func39 rfl Try.ntmps39 (lbr rfl) fun a0 y0 zz0 harg => ?_
  have e0 : sl a0 0 = (.int .i64 (n)) := harg 0 (lbr rfl)
  have kw := Keeps.refl All w
  clear harg
  refine wp_seq_k fun K1 hK1 => ?_
  refine rg mixed y0 zz0 ?_
  refine .alloc z33 ?_
  refine .done ⟨by kernel_rfl, fun a2 g W2 y2 zz2 hk hg hV hR hP => ?_⟩
  obtain ⟨⟨b2_2, e2, hb2, own_b2_2⟩, -⟩ := hV
  have lo_b2_2 : w.heap.size ≤ b2_2 := Nat.le_trans kw.size (hg.lo _ _ hb2)
  have own_b2_2 : Own W2 b2_2 [(.int .u8 (0)), (.int .i64 (0)), (.string (⟨#[]⟩)), (.slice none 0 0), (.slice none 0 0)] 33 := own_b2_2
  replace e0 := (hR 0 rfl).trans e0
  replace kw := kw.x hk
  clear hR hk hg hP hb2
  refine tail_nil (hK1 _ _ ?_)
  refine wp_seq_k fun K3 hK3 => ?_
  refine rg mixed y2 zz2 ?_
  refine .i (sp_move (hbs rfl e0)) ?_
  refine .i (v := (.agg #[(.int .u8 (2)), (.int .i64 (n)), (.string (⟨#[]⟩)), (.slice none 0 0), (.slice none 0 0)])) (sp_build (vs := [(0, (.int .u8 (2))), (1, (.int .i64 (n)))]) Try.underlying33 z33 (pl33 Try.underlying33) ⟨rfl, Has.cst, rfl, (hlc rfl), trivial⟩ rfl) ?_
  refine .done ⟨by kernel_rfl, fun a4 g W4 y4 zz4 hk hg hV hR hP => ?_⟩
  obtain ⟨e4, -, -⟩ := hV
  replace e2 := (hR 2 rfl).trans e2
  replace e4 := e4.q
  replace own_b2_2 := own_b2_2.ext hk
  replace kw := kw.x hk
  clear hR hk hg hP
  refine tail_store (b := b2_2) (o := 0) (v := (.agg #[(.int .u8 (2)), (.int .i64 (n)), (.string (⟨#[]⟩)), (.slice none 0 0), (.slice none 0 0)])) e2 e4 sz33 rfl own_b2_2 (lbr rfl) (all_cons rfl (all_cons rfl (all_cons rfl (all_cons rfl (all_cons rfl all_nil))))) (fun W5 hs own_b2_2 => ?_)
  have own_b2_2 : Own W5 b2_2 [(.int .u8 (2)), (.int .i64 (n)), (.string (⟨#[]⟩)), (.slice none 0 0), (.slice none 0 0)] 33 := own_b2_2
  replace kw := keeps_store kw hs lo_b2_2
  clear hs
  refine tail_nil (hK3 _ _ ?_)
  refine wp_ret ?_
  refine (show bodyPost Try.prog Try.f39 _ .ret _ _ from retC (v := (.agg #[(.int .u8 (2)), (.int .i64 (n)), (.string (⟨#[]⟩)), (.slice none 0 0), (.slice none 0 0)])) rfl zz4 e2 own_b2_2 agg33 sz33 rfl (fun h => by cases h) rfl ⟨_, rfl, kw, ?_⟩)
  exact rfl

set_option maxRecDepth 100000 in
theorem refTexts_ok (ns : List ByteArray) (hn : ns.length ≤ 1073741824) (w : World) (S : BSet) (v : Value) (hv : Rd w S (strsD ns) v) : Calls Try.prog 19 #[v] w (Ret w fun u W => Rd W (Fr w) (txtsV ns).d u) := by
  obtain ⟨va, vc, ev, D_v⟩ := rdS_out (rd_arg hv)
  subst ev
  refine enter Try.func19 rfl Try.ntmps19 (lbr rfl) fun a0 y0 zz0 harg => ?_
  have e0 : sl a0 0 = (.slice va (ns.length) vc) := harg 0 (lbr rfl)
  have kw := Keeps.refl All w
  clear harg
  refine wp_seq_k fun K1 hK1 => ?_
  refine rg mixed y0 zz0 ?_
  refine .alloc z33 ?_
  refine .done ⟨by kernel_rfl, fun a2 g W2 y2 zz2 hk hg hV hR hP => ?_⟩
  obtain ⟨⟨b2_2, e2, hb2, own_b2_2⟩, -⟩ := hV
  have lo_b2_2 : w.heap.size ≤ b2_2 := Nat.le_trans kw.size (hg.lo _ _ hb2)
  have own_b2_2 : Own W2 b2_2 [(.int .u8 (0)), (.int .i64 (0)), (.string (⟨#[]⟩)), (.slice none 0 0), (.slice none 0 0)] 33 := own_b2_2
  replace e0 := (hR 0 rfl).trans e0
  replace D_v := sa_more D_v hk [b2_2] (in_cons (hg.lo _ _ hb2) in_nil)
  replace kw := kw.x hk
  clear hR hk hg hP hb2
  refine tail_nil (hK1 _ _ ?_)
  refine wp_seq_k fun K3 hK3 => ?_
  refine rg mixed y2 zz2 ?_
  refine .i (v := (.agg #[(.int .u8 (4)), (.int .i64 (0)), (.string (⟨#[]⟩)), (.slice none 0 0), (.slice none 0 0)])) (sp_build (vs := [(0, (.int .u8 (4)))]) Try.underlying33 z33 (pl33 Try.underlying33) ⟨rfl, Has.cst, trivial⟩ rfl) ?_
  refine .alloc z33 ?_
  refine .done ⟨by kernel_rfl, fun a4 g W4 y4 zz4 hk hg hV hR hP => ?_⟩
  obtain ⟨⟨b3_4, e3, hb3, own_b3_4⟩, e5, -⟩ := hV
  have lo_b3_4 : w.heap.size ≤ b3_4 := Nat.le_trans kw.size (hg.lo _ _ hb3)
  have ne_b2_2_b3_4 : b2_2 ≠ b3_4 := Nat.ne_of_lt (Nat.lt_of_lt_of_le own_b2_2.lt (hg.lo _ _ hb3))
  have own_b3_4 : Own W4 b3_4 [(.int .u8 (0)), (.int .i64 (0)), (.string (⟨#[]⟩)), (.slice none 0 0), (.slice none 0 0)] 33 := own_b3_4
  replace e0 := (hR 0 rfl).trans e0
  replace e2 := (hR 2 rfl).trans e2
  replace D_v := sa_more D_v hk [b3_4] (in_cons (hg.lo _ _ hb3) in_nil)
  replace e5 := e5.q
  replace own_b2_2 := own_b2_2.ext hk
  replace kw := kw.x hk
  clear hR hk hg hP hb3
  refine tail_store (b := b3_4) (o := 0) (v := (.agg #[(.int .u8 (4)), (.int .i64 (0)), (.string (⟨#[]⟩)), (.slice none 0 0), (.slice none 0 0)])) e3 e5 sz33 rfl own_b3_4 (lbr rfl) (all_cons rfl (all_cons rfl (all_cons rfl (all_cons rfl (all_cons rfl all_nil))))) (fun W5 hs own_b3_4 => ?_)
  have own_b3_4 : Own W5 b3_4 [(.int .u8 (4)), (.int .i64 (0)), (.string (⟨#[]⟩)), (.slice none 0 0), (.slice none 0 0)] 33 := own_b3_4
  replace own_b2_2 := own_store own_b2_2 hs ne_b2_2_b3_4
  replace D_v := sa_store D_v hs (by simp)
  replace kw := keeps_store kw hs lo_b3_4
  clear hs
  refine tail_nil (hK3 _ _ ?_)
  refine wp_seq_k fun K6 hK6 => ?_
  refine wp_seq_k fun K7 hK7 => ?_
  refine rg mixed y4 zz4 ?_
  refine .i (sp_assign Has.cst) ?_
  refine .done ⟨by kernel_rfl, fun a8 g W8 y8 zz8 hk hg hV hR hP => ?_⟩
  obtain ⟨e4, -⟩ := hV
  replace e0 := (hR 0 rfl).trans e0
  replace e2 := (hR 2 rfl).trans e2
  replace e3 := (hR 3 rfl).trans e3
  replace D_v := D_v.ext hk
  have e4 : sl a8 4 = (.int .i64 (0)) := e4
  replace own_b2_2 := own_b2_2.ext hk
  replace own_b3_4 := own_b3_4.ext hk
  replace kw := kw.x hk
  clear hR hk hg hP
  refine tail_nil (hK7 _ _ ?_)
  refine wp_block ?_
  have A_ar9 : Arr W8 w.heap.size 33 5 (SF w (blks none ++ (b3_4 :: (b2_2 :: [])))) (List.map V.d ([])) (.slice none 0 0) none := arr_nil _ _ _ _ _
  replace D_v : Rd W8 (SA w S (blks none ++ (b3_4 :: (b2_2 :: [])))) (strsD (ns)) (.slice va (ns.length) vc) := D_v
  refine wp_for (ns.length) (fun k a W => ∃ (va4_10 : Value), ∃ (hd4_10 : Option Nat), a.tmps.size = 23 ∧ a.defers = [] ∧ Keeps All w W ∧ sl a 0 = (.slice va (ns.length) vc) ∧ sl a 2 = (.pointer (some ⟨b2_2, 0, none⟩)) ∧ sl a 3 = (.pointer (some ⟨b3_4, 0, none⟩)) ∧ sl a 4 = (.int .i64 ((k : Nat))) ∧ Own W b2_2 [(.int .u8 (0)), (.int .i64 (0)), (.string (⟨#[]⟩)), (.slice none 0 0), (.slice none 0 0)] 33 ∧ Own W b3_4 [(.int .u8 (4)), (.int .i64 (0)), (.string (⟨#[]⟩)), (.slice none 0 0), va4_10] 33 ∧ Rd W (SA w S (blks hd4_10 ++ (b3_4 :: (b2_2 :: [])))) (strsD (ns)) (.slice va (ns.length) vc) ∧ Arr W w.heap.size 33 5 (SF w (blks hd4_10 ++ (b3_4 :: (b2_2 :: [])))) (List.map V.d (List.map txtV (ns.take k))) va4_10 hd4_10 ∧ b2_2 ∉ blks hd4_10 ∧ b3_4 ∉ blks hd4_10) ⟨(.slice none 0 0), none, y8, zz8, kw, e0, e2, e3, (e4.trans (congrArg (Value.int .i64) (rfl))), own_b2_2, own_b3_4, D_v, A_ar9, nb_none, nb_none⟩ ?_
  clear kw e0 e2 e3 e4 own_b2_2 own_b3_4 D_v A_ar9
  rintro k a10 W10 hkk ⟨va4_10, hd4_10, y10, zz10, kw, e0, e2, e3, e4, own_b2_2, own_b3_4, D_v, A4_10, nb_b2_2_ar9_10, nb_b3_4_ar9_10⟩
  refine wp_seq_k fun K11 hK11 => ?_
  refine wp_seq_k fun K12 hK12 => ?_
  refine rg mixed y10 zz10 ?_
  refine .i (sp_move (hbs rfl e4)) ?_
  refine .i (sp_move (hbs rfl e0)) ?_
  refine .i (sp_lenSs Try.underlying23 ((hlc rfl).dat D_v sub_all)) ?_
  refine .i (sp_lss (hlc rfl) (hlc rfl)) ?_
  refine .done ⟨by kernel_rfl, fun a13 g W13 y13 zz13 hk hg hV hR hP => ?_⟩
  obtain ⟨e9, -, -, -, -⟩ := hV
  replace e0 := (hR 0 rfl).trans e0
  replace e2 := (hR 2 rfl).trans e2
  replace e3 := (hR 3 rfl).trans e3
  replace e4 := (hR 4 rfl).trans e4
  replace A4_10 := A4_10.ext hk
  replace D_v := D_v.ext hk
  replace e9 := e9.q
  replace own_b2_2 := own_b2_2.ext hk
  replace own_b3_4 := own_b3_4.ext hk
  replace kw := kw.x hk
  clear hR hk hg hP
  refine tail_nil (hK12 _ _ ?_)
  refine wp_cond_split e9 (fun hc => ?_) (fun hc => ?_)
  ·
   have hlt : k < ns.length := by simpa using hc
   refine wp_skip (hK11 _ _ ?_)
   refine wp_seq_k fun K14 hK14 => ?_
   refine wp_block ?_
   refine wp_reg (fun k => k ∉ blks hd4_10) (Ψ := fun W => Arr W w.heap.size 33 5 (SF w (blks hd4_10 ++ (b3_4 :: (b2_2 :: [])))) (List.map V.d (List.map txtV (ns.take k))) va4_10 hd4_10) mixed y13 zz13 (fun W W' k h => h.ext k) A4_10 ?_
   refine .i (fo 4 (hbs rfl e3) Try.underlying33 rfl sz31 rfl) ?_
   refine .i (lo1 (hlc rfl) own_b3_4 nb_b3_4_ar9_10 agg31 sz31 rfl) ?_
   refine .i (sp_move (hbs rfl e0)) ?_
   refine .i (sp_move (hbs rfl e4)) ?_
   refine .op (φ := IsR (SA w S (blks hd4_10 ++ (b3_4 :: (b2_2 :: [])))) (D.str (ns[k]'hlt))) (st_r (sub_nb (fun b hb => List.mem_append_left _ hb))) (sp_indexS (i := k) ((hlc rfl).dat D_v (sub_nb (fun b hb => List.mem_append_left _ hb))) (hlc rfl) Try.underlying23 sz9 rfl hlt) ?_
   refine .i (sp_loadStr (hlc rfl) agg9 sz9) ?_
   refine .i (v := (.agg #[(.int .u8 (3)), (.int .i64 (0)), (.string (ns[k]'hlt)), (.slice none 0 0), (.slice none 0 0)])) (sp_call1 (φ1 := Is (.string (ns[k]'hlt))) ent78 (hlc rfl) (fun g u1 W hk hgk h1 => by have h1 : u1 = _ := h1; subst u1; exact refText_ok (ns[k]'hlt) W)) ?_
   refine .op (φ := IsD (SF w (blks hd4_10 ++ (b3_4 :: (b2_2 :: [])))) (valsD ([V.mk (3) (0) (ns[k]'hlt) ([]) ([])]))) (st_d (sub_nbF (fun b hb => List.mem_append_left _ hb))) (sp_bsl (ds := [V.d (V.mk (3) (0) (ns[k]'hlt) ([]) ([]))]) Try.underlying31 sz33 z33 (lbr rfl) (lbr rfl) ⟨rfl, ((hlc rfl).dat (rdV_mk (rd_strAt D_v k hlt) (rd_nil _) (rd_nil _) : Rd W13 (SF w (blks hd4_10 ++ (b3_4 :: (b2_2 :: [])))) (V.d (V.mk (3) (0) (ns[k]'hlt) ([]) ([]))) _) (sub_nbF (fun b hb => List.mem_append_left _ hb))), trivial⟩ rfl (by intro e he; simp at he; rcases he with rfl <;> exact width_V _) (fr_sf kw (in_app A4_10.lt (in_cons own_b3_4.lt (in_cons own_b2_2.lt in_nil))))) ?_
   refine .appB (ds := List.map V.d (List.map txtV (ns.take k))) (es := [V.d (V.mk (3) (0) (ns[k]'hlt) ([]) ([]))]) (X := SF w (blks hd4_10 ++ (b3_4 :: (b2_2 :: [])))) Try.underlying31 inf33 (lbr rfl) (hlc rfl) (hlc rfl) (sub_nbF (fun b hb => List.mem_append_left _ hb)) (by simp [maxLen]; omega) (by simp; omega) kw.size ?_
   refine .i (fo 4 (hbs rfl e3) Try.underlying33 rfl sz31 rfl) ?_
   refine .done ⟨by kernel_rfl, fun a15 g W15 y15 zz15 hk hg hV hR hP => ?_⟩
   obtain ⟨e21, e20, -, -, -, -, -, -, -, -, -⟩ := hV
   replace e0 := (hR 0 rfl).trans e0
   replace e2 := (hR 2 rfl).trans e2
   replace e3 := (hR 3 rfl).trans e3
   replace e4 := (hR 4 rfl).trans e4
   obtain ⟨v20_15, ev⟩ : ∃ v, sl a15 20 = v := ⟨_, rfl⟩
   rw [ev] at e20
   obtain ⟨hd20_15, A_20_15, hf20_15⟩ := e20
   have e20 := ev; clear ev
   obtain ⟨v20_15a, v20_15n, v20_15c, ev⟩ := arr_sl A_20_15; subst ev
   replace A_20_15 := arrF_new (M' := (blks hd20_15 ++ (b3_4 :: (b2_2 :: [])))) A_20_15 (rep_app (rep_q fun _ h => h) (rep_cons (rep_cons rep_nil)))
   replace A_20_15 : Arr W15 w.heap.size 33 5 (SF w (blks hd20_15 ++ (b3_4 :: (b2_2 :: [])))) (List.map V.d ((List.map txtV (ns.take k)) ++ [V.mk (3) (0) (ns[k]'hlt) ([]) ([])])) (.slice v20_15a v20_15n v20_15c) hd20_15 := by first | exact A_20_15 | (rw [List.map_append]; exact A_20_15)
   have nb_b2_2_15 : b2_2 ∉ blks hd20_15 := nb_new nb_b2_2_ar9_10 own_b2_2.lt hf20_15
   have nb_b3_4_15 : b3_4 ∉ blks hd20_15 := nb_new nb_b3_4_ar9_10 own_b3_4.lt hf20_15
   replace D_v := sa_app (M' := (blks hd20_15 ++ (b3_4 :: (b2_2 :: [])))) D_v hk (fun b hb => List.mem_append_left _ hb) (rep_app hf20_15 (rep_cons (rep_cons rep_nil)))
   replace own_b2_2 := own_app own_b2_2 hk nb_b2_2_ar9_10
   replace own_b3_4 := own_app own_b3_4 hk nb_b3_4_ar9_10
   replace kw := keeps_app kw hk A4_10.ge
   have e21 : sl a15 21 = (.pointer (some ⟨b3_4, 4, none⟩)) := e21
   clear hR hk hg hP hf20_15 A4_10
   refine tail_store (b := b3_4) (o := 4) (v := (.slice v20_15a v20_15n v20_15c)) e21 e20 sz31 rfl own_b3_4 (lbr rfl) (all_cons rfl all_nil) (fun W16 hs own_b3_4 => ?_)
   have own_b3_4 : Own W16 b3_4 [(.int .u8 (4)), (.int .i64 (0)), (.string (⟨#[]⟩)), (.slice none 0 0), (.slice v20_15a v20_15n v20_15c)] 33 := own_b3_4
   replace own_b2_2 := own_store own_b2_2 hs ne_b2_2_b3_4
   replace D_v := sa_store D_v hs (by simp)
   replace A_20_15 := arrF_store A_20_15 hs (by simp) nb_b3_4_15
   replace kw := keeps_store kw hs lo_b3_4
   clear hs
   refine tail_nil (hK14 _ _ ?_)
   refine rg mixed y15 zz15 ?_
   refine .i (sp_move (hbs rfl e4)) ?_
   refine .i (sp_add (hlc rfl) Has.cst (i64_in (by omega))) ?_
   refine .i (sp_assign (hlc rfl)) ?_
   refine .done ⟨by kernel_rfl, fun a17 g W17 y17 zz17 hk hg hV hR hP => ?_⟩
   obtain ⟨e4, -, -, -⟩ := hV
   replace e0 := (hR 0 rfl).trans e0
   replace e2 := (hR 2 rfl).trans e2
   replace e3 := (hR 3 rfl).trans e3
   replace A_20_15 := A_20_15.ext hk
   replace D_v := D_v.ext hk
   replace e4 := e4.q
   replace own_b2_2 := own_b2_2.ext hk
   replace own_b3_4 := own_b3_4.ext hk
   replace kw := kw.x hk
   clear hR hk hg hP
   rw [show (List.map txtV (ns.take k)) ++ [V.mk (3) (0) (ns[k]'hlt) ([]) ([])] = List.map txtV (ns.take (k + 1)) by rw [List.take_succ_eq_append_getElem hlt, List.map_append]; rfl] at A_20_15
   exact tail_nil ⟨hlt, (.slice v20_15a v20_15n v20_15c), hd20_15, y17, zz17, kw, e0, e2, e3, (e4.trans (congrArg (Value.int .i64) (by simp))), own_b2_2, own_b3_4, D_v, A_20_15, nb_b2_2_15, nb_b3_4_15⟩
  ·
   have hge0 : ¬ k < ns.length := by simpa using hc
   have hge : k = ns.length := by omega
   rw [show List.map txtV (ns.take k) = List.map txtV ns by rw [hge, List.take_length]] at A4_10
   have D_va4_10 : Rd W13 (SF w [b3_4, b2_2]) (valsD (List.map txtV ns)) va4_10 := arrF_rd A4_10 (ls_skipA (ls_keep (ls_keep ls_nil))) (nin_cons nb_b3_4_ar9_10 (nin_cons nb_b2_2_ar9_10 nin_nil))
   obtain ⟨va4_10a, va4_10c, ev, D2⟩ := rdVs_out D_va4_10
   subst ev; replace D_va4_10 := D2; clear D2
   replace D_v := sa_less (M' := [b3_4, b2_2]) D_v (ls_skipA (ls_keep (ls_keep ls_nil)))
   refine wp_exit (hK6 _ _ ?_)
   refine wp_seq_k fun K18 hK18 => ?_
   refine rg mixed y13 zz13 ?_
   refine .i (v := (.agg #[(.int .u8 (4)), (.int .i64 (0)), (.string (⟨#[]⟩)), (.slice none 0 0), (.slice va4_10a ((List.map txtV ns).length) va4_10c)])) (loA (hbs rfl e3) own_b3_4 trivial agg33 sz33 rfl rfl) ?_
   refine .done ⟨by kernel_rfl, fun a19 g W19 y19 zz19 hk hg hV hR hP => ?_⟩
   obtain ⟨e22, -⟩ := hV
   replace e2 := (hR 2 rfl).trans e2
   replace D_v := D_v.ext hk
   replace D_va4_10 := D_va4_10.ext hk
   replace e22 := e22.q
   replace own_b2_2 := own_b2_2.ext hk
   replace own_b3_4 := own_b3_4.ext hk
   replace kw := kw.x hk
   clear hR hk hg hP
   refine tail_store (b := b2_2) (o := 0) (v := (.agg #[(.int .u8 (4)), (.int .i64 (0)), (.string (⟨#[]⟩)), (.slice none 0 0), (.slice va4_10a ((List.map txtV ns).length) va4_10c)])) e2 e22 sz33 rfl own_b2_2 (lbr rfl) (all_cons rfl (all_cons rfl (all_cons rfl (all_cons rfl (all_cons rfl all_nil))))) (fun W20 hs own_b2_2 => ?_)
   have own_b2_2 : Own W20 b2_2 [(.int .u8 (4)), (.int .i64 (0)), (.string (⟨#[]⟩)), (.slice none 0 0), (.slice va4_10a ((List.map txtV ns).length) va4_10c)] 33 := own_b2_2
   replace own_b3_4 := own_store own_b3_4 hs ne_b2_2_b3_4.symm
   replace D_v := sa_store D_v hs (by simp)
   replace D_va4_10 := sf_store D_va4_10 hs (by simp)
   replace kw := keeps_store kw hs lo_b2_2
   clear hs
   refine tail_nil (hK18 _ _ ?_)
   refine wp_ret ?_
   refine (show bodyPost Try.prog Try.f19 _ .ret _ _ from retC (v := (.agg #[(.int .u8 (4)), (.int .i64 (0)), (.string (⟨#[]⟩)), (.slice none 0 0), (.slice va4_10a ((List.map txtV ns).length) va4_10c)])) rfl zz19 e2 own_b2_2 agg33 sz33 rfl (fun h => by cases h) rfl ⟨_, rfl, kw, ?_⟩)
   exact sf_fr (rdV_mk (lbr rfl) (rd_nil _) D_va4_10 : Rd W20 (SF w [b3_4, b2_2]) (V.d (V.mk (4) (0) (⟨#[]⟩) ([]) (List.map txtV ns))) _)

set_option maxRecDepth 100000 in
theorem object_ok (th : Int) (ns : List ByteArray) (hn : ns.length ≤ 1073741824) (w : World) (S : BSet) (v : Value) (hv : Rd w S (strsD ns) v) : Calls Try.prog 17 #[.int .i64 th, v] w (Ret w fun u W => Rd W (Fr w) (objV th ns).d u) := by
  obtain ⟨va, vc, ev, D_v⟩ := rdS_out (rd_arg hv)
  subst ev
  refine enter Try.func17 rfl Try.ntmps17 (lbr rfl) fun a0 y0 zz0 harg => ?_
  have e0 : sl a0 0 = (.int .i64 (th)) := harg 0 (lbr rfl)
  have e1 : sl a0 1 = (.slice va (ns.length) vc) := harg 1 (lbr rfl)
  have kw := Keeps.refl All w
  clear harg
  refine wp_seq_k fun K1 hK1 => ?_
  refine rg mixed y0 zz0 ?_
  refine .alloc z33 ?_
  refine .done ⟨by kernel_rfl, fun a2 g W2 y2 zz2 hk hg hV hR hP => ?_⟩
  obtain ⟨⟨b4_2, e4, hb4, own_b4_2⟩, -⟩ := hV
  have lo_b4_2 : w.heap.size ≤ b4_2 := Nat.le_trans kw.size (hg.lo _ _ hb4)
  have own_b4_2 : Own W2 b4_2 [(.int .u8 (0)), (.int .i64 (0)), (.string (⟨#[]⟩)), (.slice none 0 0), (.slice none 0 0)] 33 := own_b4_2
  replace e0 := (hR 0 rfl).trans e0
  replace e1 := (hR 1 rfl).trans e1
  replace D_v := sa_more D_v hk [b4_2] (in_cons (hg.lo _ _ hb4) in_nil)
  replace kw := kw.x hk
  clear hR hk hg hP hb4
  refine tail_nil (hK1 _ _ ?_)
  refine wp_seq_k fun K3 hK3 => ?_
  refine rg mixed y2 zz2 ?_
  refine .da (X := SF w [b4_2]) (e := strsD ([⟨#[107, 101, 121, 105, 100, 115]⟩, ⟨#[116, 104, 114, 101, 115, 104, 111, 108, 100]⟩])) (sp_bsl (ds := [D.str (⟨#[107, 101, 121, 105, 100, 115]⟩), D.str (⟨#[116, 104, 114, 101, 115, 104, 111, 108, 100]⟩)]) Try.underlying23 sz9 z9 (lbr rfl) (lbr rfl) ⟨rfl, (Has.cst.str (lbr rfl)), ⟨rfl, (Has.cst.str (lbr rfl)), trivial⟩⟩ rfl (by simp [width]) (fr_sf kw (in_cons own_b4_2.lt in_nil))) ?_
  refine .i (sp_move (hbs rfl e1)) ?_
  refine .da (X := Fr W2) (e := V.d (txtsV ns)) (sp_call1 (φ1 := IsD (SA w S [b4_2]) (strsD (ns))) ent19 ((hlc rfl).dat D_v sub_all) (fun g u1 W hk hgk h1 => (refTexts_ok (ns) (by omega) W _ _ h1).mono (ret_fr hk hgk))) ?_
  refine .i (sp_move (hbs rfl e0)) ?_
  refine .i (v := (.agg #[(.int .u8 (2)), (.int .i64 (th)), (.string (⟨#[]⟩)), (.slice none 0 0), (.slice none 0 0)])) (sp_build (vs := [(0, (.int .u8 (2))), (1, (.int .i64 (th)))]) Try.underlying33 z33 (pl33 Try.underlying33) ⟨rfl, Has.cst, rfl, (hlc rfl), trivial⟩ rfl) ?_
  refine .da (X := SF w [b4_2]) (e := valsD ([txtsV ns, V.mk (2) (th) (⟨#[]⟩) ([]) ([])])) (sp_bsl (ds := [V.d (txtsV ns), V.d (V.mk (2) (th) (⟨#[]⟩) ([]) ([]))]) Try.underlying31 sz33 z33 (lbr rfl) (lbr rfl) ⟨rfl, ((hlc rfl).sup (fr_sf kw (in_cons own_b4_2.lt in_nil))), ⟨rfl, ((hlc rfl).dat (rdV_mk (lbr rfl) (rd_nil _) (rd_nil _) : Rd W2 (SF w [b4_2]) (V.d (V.mk (2) (th) (⟨#[]⟩) ([]) ([]))) _) sub_all), trivial⟩⟩ rfl (by intro e he; simp at he; rcases he with rfl | rfl <;> exact width_V _) (fr_sf kw (in_cons own_b4_2.lt in_nil))) ?_
  refine .da (X := SF w [b4_2]) (e := V.d (V.mk (5) (0) (⟨#[]⟩) ([⟨#[107, 101, 121, 105, 100, 115]⟩, ⟨#[116, 104, 114, 101, 115, 104, 111, 108, 100]⟩]) ([txtsV ns, V.mk (2) (th) (⟨#[]⟩) ([]) ([])]))) (sp_buildD (zd := [.int .u8 0, .int .i64 0, .str ⟨#[]⟩, strsD [], valsD []]) (es := [(0, D.int .u8 (5)), (3, strsD ([⟨#[107, 101, 121, 105, 100, 115]⟩, ⟨#[116, 104, 114, 101, 115, 104, 111, 108, 100]⟩])), (4, valsD ([txtsV ns, V.mk (2) (th) (⟨#[]⟩) ([]) ([])]))]) Try.underlying33 z33 (pl33 Try.underlying33) ⟨rfl, Has.cst.int, ⟨rfl, (hlc rfl), ⟨rfl, (hlc rfl), trivial⟩⟩⟩ zV rfl (by simp [fits, width, strsD, valsD]) (by rw [V.d_eq]; rfl)) ?_
  refine .done ⟨by kernel_rfl, fun a4 g W4 y4 zz4 hk hg hV hR hP => ?_⟩
  obtain ⟨e11, -, -, -, -, -, -, -⟩ := hV
  replace e4 := (hR 4 rfl).trans e4
  replace D_v := D_v.ext hk
  obtain ⟨v11_4, ev⟩ : ∃ v, sl a4 11 = v := ⟨_, rfl⟩
  rw [ev] at e11
  have D_v11_4 : Rd W4 (SF w [b4_2]) (V.d (V.mk (5) (0) (⟨#[]⟩) ([⟨#[107, 101, 121, 105, 100, 115]⟩, ⟨#[116, 104, 114, 101, 115, 104, 111, 108, 100]⟩]) ([txtsV ns, V.mk (2) (th) (⟨#[]⟩) ([]) ([])]))) v11_4 := sf_end e11 hk [] in_nil
  replace e11 := ev; clear ev
  obtain ⟨cn11_4a, cn11_4c, ci11_4a, ci11_4c, ev, ht_v11_4, D_cn11_4, D_ci11_4⟩ := rdV_out D_v11_4
  subst ev; clear D_v11_4
  replace own_b4_2 := own_b4_2.ext hk
  replace kw := kw.x hk
  clear hR hk hg hP
  refine tail_store (b := b4_2) (o := 0) (v := (.agg #[(.int .u8 ((V.mk (5) (0) (⟨#[]⟩) ([⟨#[107, 101, 121, 105, 100, 115]⟩, ⟨#[116, 104, 114, 101, 115, 104, 111, 108, 100]⟩]) ([txtsV ns, V.mk (2) (th) (⟨#[]⟩) ([]) ([])])).k)), (.int .i64 ((V.mk (5) (0) (⟨#[]⟩) ([⟨#[107, 101, 121, 105, 100, 115]⟩, ⟨#[116, 104, 114, 101, 115, 104, 111, 108, 100]⟩]) ([txtsV ns, V.mk (2) (th) (⟨#[]⟩) ([]) ([])])).n)), (.string ((V.mk (5) (0) (⟨#[]⟩) ([⟨#[107, 101, 121, 105, 100, 115]⟩, ⟨#[116, 104, 114, 101, 115, 104, 111, 108, 100]⟩]) ([txtsV ns, V.mk (2) (th) (⟨#[]⟩) ([]) ([])])).t)), (.slice cn11_4a (((V.mk (5) (0) (⟨#[]⟩) ([⟨#[107, 101, 121, 105, 100, 115]⟩, ⟨#[116, 104, 114, 101, 115, 104, 111, 108, 100]⟩]) ([txtsV ns, V.mk (2) (th) (⟨#[]⟩) ([]) ([])])).ns).length) cn11_4c), (.slice ci11_4a (((V.mk (5) (0) (⟨#[]⟩) ([⟨#[107, 101, 121, 105, 100, 115]⟩, ⟨#[116, 104, 114, 101, 115, 104, 111, 108, 100]⟩]) ([txtsV ns, V.mk (2) (th) (⟨#[]⟩) ([]) ([])])).xs).length) ci11_4c)])) e4 e11 sz33 rfl own_b4_2 (lbr rfl) (all_cons rfl (all_cons rfl (all_cons rfl (all_cons rfl (all_cons rfl all_nil))))) (fun W5 hs own_b4_2 => ?_)
  have own_b4_2 : Own W5 b4_2 [(.int .u8 ((V.mk (5) (0) (⟨#[]⟩) ([⟨#[107, 101, 121, 105, 100, 115]⟩, ⟨#[116, 104, 114, 101, 115, 104, 111, 108, 100]⟩]) ([txtsV ns, V.mk (2) (th) (⟨#[]⟩) ([]) ([])])).k)), (.int .i64 ((V.mk (5) (0) (⟨#[]⟩) ([⟨#[107, 101, 121, 105, 100, 115]⟩, ⟨#[116, 104, 114, 101, 115, 104, 111, 108, 100]⟩]) ([txtsV ns, V.mk (2) (th) (⟨#[]⟩) ([]) ([])])).n)), (.string ((V.mk (5) (0) (⟨#[]⟩) ([⟨#[107, 101, 121, 105, 100, 115]⟩, ⟨#[116, 104, 114, 101, 115, 104, 111, 108, 100]⟩]) ([txtsV ns, V.mk (2) (th) (⟨#[]⟩) ([]) ([])])).t)), (.slice cn11_4a (((V.mk (5) (0) (⟨#[]⟩) ([⟨#[107, 101, 121, 105, 100, 115]⟩, ⟨#[116, 104, 114, 101, 115, 104, 111, 108, 100]⟩]) ([txtsV ns, V.mk (2) (th) (⟨#[]⟩) ([]) ([])])).ns).length) cn11_4c), (.slice ci11_4a (((V.mk (5) (0) (⟨#[]⟩) ([⟨#[107, 101, 121, 105, 100, 115]⟩, ⟨#[116, 104, 114, 101, 115, 104, 111, 108, 100]⟩]) ([txtsV ns, V.mk (2) (th) (⟨#[]⟩) ([]) ([])])).xs).length) ci11_4c)] 33 := own_b4_2
  replace D_v := sa_store D_v hs (by simp)
  replace D_cn11_4 := sf_store D_cn11_4 hs (by simp)
  replace D_ci11_4 := sf_store D_ci11_4 hs (by simp)
  replace kw := keeps_store kw hs lo_b4_2
  clear hs
  refine tail_nil (hK3 _ _ ?_)
  refine wp_ret ?_
  refine (show bodyPost Try.prog Try.f17 _ .ret _ _ from retC (v := (.agg #[(.int .u8 ((V.mk (5) (0) (⟨#[]⟩) ([⟨#[107, 101, 121, 105, 100, 115]⟩, ⟨#[116, 104, 114, 101, 115, 104, 111, 108, 100]⟩]) ([txtsV ns, V.mk (2) (th) (⟨#[]⟩) ([]) ([])])).k)), (.int .i64 ((V.mk (5) (0) (⟨#[]⟩) ([⟨#[107, 101, 121, 105, 100, 115]⟩, ⟨#[116, 104, 114, 101, 115, 104, 111, 108, 100]⟩]) ([txtsV ns, V.mk (2) (th) (⟨#[]⟩) ([]) ([])])).n)), (.string ((V.mk (5) (0) (⟨#[]⟩) ([⟨#[107, 101, 121, 105, 100, 115]⟩, ⟨#[116, 104, 114, 101, 115, 104, 111, 108, 100]⟩]) ([txtsV ns, V.mk (2) (th) (⟨#[]⟩) ([]) ([])])).t)), (.slice cn11_4a (((V.mk (5) (0) (⟨#[]⟩) ([⟨#[107, 101, 121, 105, 100, 115]⟩, ⟨#[116, 104, 114, 101, 115, 104, 111, 108, 100]⟩]) ([txtsV ns, V.mk (2) (th) (⟨#[]⟩) ([]) ([])])).ns).length) cn11_4c), (.slice ci11_4a (((V.mk (5) (0) (⟨#[]⟩) ([⟨#[107, 101, 121, 105, 100, 115]⟩, ⟨#[116, 104, 114, 101, 115, 104, 111, 108, 100]⟩]) ([txtsV ns, V.mk (2) (th) (⟨#[]⟩) ([]) ([])])).xs).length) ci11_4c)])) rfl zz4 e4 own_b4_2 agg33 sz33 rfl (fun h => by cases h) rfl ⟨_, rfl, kw, ?_⟩)
  exact sf_fr (rdV_in (x := (V.mk (5) (0) (⟨#[]⟩) ([⟨#[107, 101, 121, 105, 100, 115]⟩, ⟨#[116, 104, 114, 101, 115, 104, 111, 108, 100]⟩]) ([txtsV ns, V.mk (2) (th) (⟨#[]⟩) ([]) ([])]))) ht_v11_4 D_cn11_4 D_ci11_4 : Rd W5 (SF w [b4_2]) (V.d ((V.mk (5) (0) (⟨#[]⟩) ([⟨#[107, 101, 121, 105, 100, 115]⟩, ⟨#[116, 104, 114, 101, 115, 104, 111, 108, 100]⟩]) ([txtsV ns, V.mk (2) (th) (⟨#[]⟩) ([]) ([])])))) _)

set_option maxRecDepth 100000 in
theorem id_ok (c : Nat) (w : World) : Calls Try.prog 15 #[.int .u8 c] w (Ret w fun u _ => u = .string (ofBytes (List.replicate (lit 64) (c : Int)))) := by
  refine enter Try.func15 rfl Try.ntmps15 (lbr rfl) fun a0 y0 zz0 harg => ?_
  have e0 : sl a0 0 = (.int .u8 ((c : Nat))) := harg 0 (lbr rfl)
  have kw := Keeps.refl All w
  clear harg
  refine wp_seq_k fun K1 hK1 => ?_
  refine rg mixed y0 zz0 ?_
  refine .i (sp_assign Has.cst) ?_
  refine .done ⟨by kernel_rfl, fun a2 g W2 y2 zz2 hk hg hV hR hP => ?_⟩
  obtain ⟨-, -⟩ := hV
  replace e0 := (hR 0 rfl).trans e0
  replace kw := kw.x hk
  clear hR hk hg hP
  refine tail_nil (hK1 _ _ ?_)
  refine wp_seq_k fun K3 hK3 => ?_
  refine rg mixed y2 zz2 ?_
  refine .op (φ := IsArr W2 w.heap.size 5 1 (SF w []) (List.replicate (lit 64) (D.int .u8 (0 : Int))) none) st_arr (sp_mkA (n := (lit 64)) (zd := (D.int .u8 0)) Try.underlying25 inf5 z5 (lbr rfl) rdC_z8 Has.cst Has.cst (lbr rfl) (lbr rfl) (lbr rfl) kw.size) ?_
  refine .done ⟨by kernel_rfl, fun a4 g W4 y4 zz4 hk hg hV hR hP => ?_⟩
  obtain ⟨e5, -⟩ := hV
  replace e0 := (hR 0 rfl).trans e0
  obtain ⟨v5_4, ev⟩ : ∃ v, sl a4 5 = v := ⟨_, rfl⟩
  rw [ev] at e5
  obtain ⟨hd5_4, A_5_4, hf5_4⟩ := e5
  have e5 := ev; clear ev
  replace hf5_4 := row_new hf5_4
  obtain ⟨g5_4, c5_4, ev, hh⟩ := arr_open A_5_4 (by rw [List.length_replicate]; exact Nat.le_of_ble_eq_true rfl)
  rw [List.length_replicate] at ev; subst ev; subst hh
  replace A_5_4 := arrF_new A_5_4 (M' := (blks (some g5_4) ++ [])) (fun b hb => (List.mem_append.1 hb).symm)
  replace A_5_4 : Arr W4 w.heap.size 5 1 (SF w (blks (some g5_4) ++ [])) (List.map (D.int .u8) (List.replicate (lit 64) (0 : Int))) (.slice (some ⟨g5_4, 0, none⟩) (lit 64) c5_4) (some g5_4) := by rw [List.map_replicate]; exact A_5_4
  replace kw := kw.x hk
  clear hR hk hg hP hf5_4
  refine tail_assign (v := (.slice (some ⟨g5_4, 0, none⟩) (lit 64) c5_4)) e5 (by rw [y4]; exact Nat.le_of_ble_eq_true rfl) (fun a5 y5 zz5 e3 hr => ?_)
  replace y5 := y5.trans y4; replace zz5 := zz5.trans zz4
  replace e0 := (hr 0 (by decide)).trans e0
  replace e5 := (hr 5 (by decide)).trans e5
  clear hr
  refine tail_nil (hK3 _ _ ?_)
  refine wp_seq_k fun K6 hK6 => ?_
  refine wp_seq_k fun K7 hK7 => ?_
  refine rg mixed y5 zz5 ?_
  refine .i (sp_assign Has.cst) ?_
  refine .done ⟨by kernel_rfl, fun a8 g W8 y8 zz8 hk hg hV hR hP => ?_⟩
  obtain ⟨e4, -⟩ := hV
  replace e0 := (hR 0 rfl).trans e0
  replace e3 := (hR 3 rfl).trans e3
  replace A_5_4 := A_5_4.ext hk
  have e4 : sl a8 4 = (.int .i64 (0)) := e4
  replace kw := kw.x hk
  clear hR hk hg hP
  refine tail_nil (hK7 _ _ ?_)
  refine wp_block ?_
  rw [show List.replicate (lit 64) (0 : Int) = List.replicate 0 (c : Int) ++ List.replicate (lit 64 - 0) (0 : Int) by rw [List.replicate_zero, Nat.sub_zero, List.nil_append]] at A_5_4
  refine wp_for (lit 64) (fun k a W => a.tmps.size = 18 ∧ a.defers = [] ∧ Keeps All w W ∧ sl a 0 = (.int .u8 ((c : Nat))) ∧ sl a 3 = (.slice (some ⟨g5_4, 0, none⟩) (lit 64) c5_4) ∧ sl a 4 = (.int .i64 ((k : Nat))) ∧ Arr W w.heap.size 5 1 (SF w (blks (some g5_4) ++ [])) (List.map (D.int .u8) (List.replicate k (c : Int) ++ List.replicate (lit 64 - k) (0 : Int))) (.slice (some ⟨g5_4, 0, none⟩) (lit 64) c5_4) (some g5_4)) ⟨y8, zz8, kw, e0, e3, (e4.trans (congrArg (Value.int .i64) (rfl))), A_5_4⟩ ?_
  clear kw e0 e3 e4 A_5_4
  rintro k a9 W9 hkk ⟨y9, zz9, kw, e0, e3, e4, A3_9⟩
  refine wp_seq_k fun K10 hK10 => ?_
  refine wp_seq_k fun K11 hK11 => ?_
  refine rg mixed y9 zz9 ?_
  refine .i (sp_move (hbs rfl e4)) ?_
  refine .i (sp_move (hbs rfl e3)) ?_
  refine .i (sp_lenV Try.underlying25 (hlc rfl)) ?_
  refine .i (sp_lss (hlc rfl) (hlc rfl)) ?_
  refine .done ⟨by kernel_rfl, fun a12 g W12 y12 zz12 hk hg hV hR hP => ?_⟩
  obtain ⟨e9, -, -, -, -⟩ := hV
  replace e0 := (hR 0 rfl).trans e0
  replace e3 := (hR 3 rfl).trans e3
  replace e4 := (hR 4 rfl).trans e4
  replace A3_9 := A3_9.ext hk
  replace e9 := e9.q
  replace kw := kw.x hk
  clear hR hk hg hP
  refine tail_nil (hK11 _ _ ?_)
  refine wp_cond_split e9 (fun hc => ?_) (fun hc => ?_)
  ·
   have hl8 : lit 64 = 64 := rfl
   have hlt : k < lit 64 := by have := of_decide_eq_true hc; omega
   refine wp_skip (hK10 _ _ ?_)
   refine wp_seq_k fun K13 hK13 => ?_
   refine wp_block ?_
   refine rg mixed y12 zz12 ?_
   refine .i (sp_move (hbs rfl e3)) ?_
   refine .i (sp_move (hbs rfl e4)) ?_
   refine .i (sp_move (hbs rfl e0)) ?_
   refine .i (v := (.pointer (some ⟨g5_4, k * 1, none⟩))) (sp_indexRow (i := k) (hlc rfl) (hlc rfl) Try.underlying25 sz5 (lbr rfl) rfl hlt rfl) ?_
   refine .done ⟨by kernel_rfl, fun a14 g W14 y14 zz14 hk hg hV hR hP => ?_⟩
   obtain ⟨e15, e14, -, -, -⟩ := hV
   replace e0 := (hR 0 rfl).trans e0
   replace e3 := (hR 3 rfl).trans e3
   replace e4 := (hR 4 rfl).trans e4
   replace A3_9 := A3_9.ext hk
   have e14 : sl a14 14 = (.int .u8 ((c : Nat))) := e14
   have e15 : sl a14 15 = (.pointer (some ⟨g5_4, k * 1, none⟩)) := e15
   replace kw := kw.x hk
   clear hR hk hg hP
   refine tail_storeA (i := k) (dd := D.int .u8 ((c : Nat))) e15 e14 sz5 A3_9 (by rw [List.length_map, List.length_append, List.length_replicate, List.length_replicate]; omega) rfl (sub_neF (by simp [blks])) rd_int rfl (fun W15 hs A_15 => ?_)
   rw [← List.map_set] at A_15
   replace A_15 : Arr W15 w.heap.size 5 1 (SF w (blks (some g5_4) ++ [])) (List.map (D.int .u8) ((List.replicate k (c : Int) ++ List.replicate (lit 64 - k) (0 : Int)).set k ((c : Nat) : Int))) (.slice (some ⟨g5_4, 0, none⟩) (lit 64) c5_4) (some g5_4) := A_15
   replace kw := keeps_store kw hs (A_15.ge _ (by simp [blks]))
   clear hs
   refine tail_nil (hK13 _ _ ?_)
   refine rg mixed y14 zz14 ?_
   refine .i (sp_move (hbs rfl e4)) ?_
   refine .i (sp_add (hlc rfl) Has.cst (i64_in (by omega))) ?_
   refine .i (sp_assign (hlc rfl)) ?_
   refine .done ⟨by kernel_rfl, fun a16 g W16 y16 zz16 hk hg hV hR hP => ?_⟩
   obtain ⟨e4, -, -, -⟩ := hV
   replace e0 := (hR 0 rfl).trans e0
   replace e3 := (hR 3 rfl).trans e3
   replace A_15 := A_15.ext hk
   replace e4 := e4.q
   replace kw := kw.x hk
   clear hR hk hg hP
   rw [show (List.replicate k (c : Int) ++ List.replicate (lit 64 - k) (0 : Int)).set k ((c : Nat) : Int) = List.replicate (k + 1) (c : Int) ++ List.replicate (lit 64 - (k + 1)) (0 : Int) by exact rep_set hlt] at A_15
   exact tail_nil ⟨hlt, y16, zz16, kw, e0, e3, (e4.trans (congrArg (Value.int .i64) (by simp))), A_15⟩
  ·
   have hge : k = lit 64 := by have := of_decide_eq_false hc; omega
   rw [show List.replicate k (c : Int) ++ List.replicate (lit 64 - k) (0 : Int) = List.replicate (lit 64) (c : Int) by rw [hge, Nat.sub_self, List.replicate_zero, List.append_nil]] at A3_9
   have D_v5_4 : Rd W12 (SF w []) (bytesD (List.replicate (lit 64) (c : Int))) (.slice (some ⟨g5_4, 0, none⟩) (lit 64) c5_4) := arrF_rd A3_9 ls_nil nin_nil
   obtain ⟨v5_4a, v5_4c, ev, D2⟩ := rdB_out D_v5_4
   replace e3 := e3.trans ev
   replace D_v5_4 := D2; clear D2 ev
   refine wp_exit (hK6 _ _ ?_)
   refine wp_seq_k fun K17 hK17 => ?_
   refine rg mixed y12 zz12 ?_
   refine .i (sp_move (hbs rfl e3)) ?_
   refine .i (v := (.string (ofBytes (List.replicate (lit 64) (c : Int))))) (sp_b2s Try.underlying25 Try.underlying5 Try.underlying9 ((hlc rfl).dat D_v5_4 sub_all)) ?_
   refine .i (sp_assign (hlc rfl)) ?_
   refine .done ⟨by kernel_rfl, fun a18 g W18 y18 zz18 hk hg hV hR hP => ?_⟩
   obtain ⟨e2, -, -, -⟩ := hV
   replace D_v5_4 := D_v5_4.ext hk
   replace e2 := e2.q
   replace kw := kw.x hk
   clear hR hk hg hP
   refine tail_nil (hK17 _ _ ?_)
   refine wp_ret ?_
   refine (show bodyPost Try.prog Try.f15 _ .ret _ _ from ret1 rfl zz18 e2 ⟨_, rfl, kw, ?_⟩)
   exact rfl

set_option maxRecDepth 100000 in
theorem longA_ok (l : List Au) (w : World) (S : BSet) (v : Value) (hv : Rd w S (ausD l) v) : Calls Try.prog 49 #[v] w (Ret w fun u _ => u = .bool (decide (5000 ≤ szA l 0))) := by
  have hmx : l.length ≤ maxLen := rd_lenA hv
  simp only [maxLen] at hmx
  obtain ⟨va, vc, ev, D_v⟩ := rdAus_out (rd_arg hv)
  subst ev
  refine enter Try.func49 rfl Try.ntmps49 (lbr rfl) fun a0 y0 zz0 harg => ?_
  have e0 : sl a0 0 = (.slice va (l.length) vc) := harg 0 (lbr rfl)
  have kw := Keeps.refl All w
  clear harg
  refine wp_seq_k fun K1 hK1 => ?_
  refine rg mixed y0 zz0 ?_
  refine .i (sp_assign Has.cst) ?_
  refine .done ⟨by kernel_rfl, fun a2 g W2 y2 zz2 hk hg hV hR hP => ?_⟩
  obtain ⟨-, -⟩ := hV
  replace e0 := (hR 0 rfl).trans e0
  replace D_v := D_v.ext hk
  replace kw := kw.x hk
  clear hR hk hg hP
  refine tail_nil (hK1 _ _ ?_)
  refine wp_seq_k fun K3 hK3 => ?_
  refine rg mixed y2 zz2 ?_
  refine .i (sp_assign Has.cst) ?_
  refine .done ⟨by kernel_rfl, fun a4 g W4 y4 zz4 hk hg hV hR hP => ?_⟩
  obtain ⟨e3, -⟩ := hV
  replace e0 := (hR 0 rfl).trans e0
  replace D_v := D_v.ext hk
  have e3 : sl a4 3 = (.int .i64 (0)) := e3
  replace kw := kw.x hk
  clear hR hk hg hP
  refine tail_nil (hK3 _ _ ?_)
  refine wp_seq_k fun K5 hK5 => ?_
  refine wp_seq_k fun K6 hK6 => ?_
  refine rg mixed y4 zz4 ?_
  refine .i (sp_assign Has.cst) ?_
  refine .done ⟨by kernel_rfl, fun a7 g W7 y7 zz7 hk hg hV hR hP => ?_⟩
  obtain ⟨e4, -⟩ := hV
  replace e0 := (hR 0 rfl).trans e0
  replace e3 := (hR 3 rfl).trans e3
  replace D_v := D_v.ext hk
  have e4 : sl a7 4 = (.int .i64 (0)) := e4
  replace kw := kw.x hk
  clear hR hk hg hP
  refine tail_nil (hK6 _ _ ?_)
  refine wp_block ?_
  refine wp_for (l.length) (fun k a W => ∃ (n2 : Nat), a.tmps.size = 41 ∧ a.defers = [] ∧ Keeps All w W ∧ sl a 0 = (.slice va (l.length) vc) ∧ sl a 3 = (.int .i64 ((n2 : Nat))) ∧ sl a 4 = (.int .i64 ((k : Nat))) ∧ Rd W (SA w S []) (ausD (l)) (.slice va (l.length) vc) ∧ (szA l 0 = szA (l.drop k) n2) ∧ (n2 ≤ 10010)) ⟨0, y7, zz7, kw, e0, (e3.trans (congrArg (Value.int .i64) (rfl))), (e4.trans (congrArg (Value.int .i64) (rfl))), D_v, rfl, by omega⟩ ?_
  clear kw e0 e3 e4 D_v
  rintro k a8 W8 hkk ⟨n2, y8, zz8, kw, e0, e3, e4, D_v, hin, hb2⟩
  refine wp_seq_k fun K9 hK9 => ?_
  refine wp_seq_k fun K10 hK10 => ?_
  refine rg mixed y8 zz8 ?_
  refine .i (sp_move (hbs rfl e4)) ?_
  refine .i (sp_move (hbs rfl e0)) ?_
  refine .i (sp_lenL Try.underlying153 ((hlc rfl).dat D_v sub_all)) ?_
  refine .i (sp_lss (hlc rfl) (hlc rfl)) ?_
  refine .done ⟨by kernel_rfl, fun a11 g W11 y11 zz11 hk hg hV hR hP => ?_⟩
  obtain ⟨e9, -, -, -, -⟩ := hV
  replace e0 := (hR 0 rfl).trans e0
  replace e3 := (hR 3 rfl).trans e3
  replace e4 := (hR 4 rfl).trans e4
  replace D_v := D_v.ext hk
  replace e9 := e9.q
  replace kw := kw.x hk
  clear hR hk hg hP
  refine tail_nil (hK10 _ _ ?_)
  refine wp_cond_split e9 (fun hc => ?_) (fun hc => ?_)
  ·
   have hlt : k < l.length := by simpa using hc
   have hdr := List.drop_eq_getElem_cons hlt
   rw [hdr, szA] at hin
   have hmn : (l[k]'hlt).ids.length ≤ maxLen := rd_idsA hv hlt
   simp only [maxLen] at hmn
   refine wp_skip (hK9 _ _ ?_)
   refine wp_seq_k fun K12 hK12 => ?_
   refine wp_block ?_
   refine wp_seq_k fun K13 hK13 => ?_
   refine rg mixed y11 zz11 ?_
   refine .i (sp_assign Has.cst) ?_
   refine .done ⟨by kernel_rfl, fun a14 g W14 y14 zz14 hk hg hV hR hP => ?_⟩
   obtain ⟨e5, -⟩ := hV
   replace e0 := (hR 0 rfl).trans e0
   replace e3 := (hR 3 rfl).trans e3
   replace e4 := (hR 4 rfl).trans e4
   replace D_v := D_v.ext hk
   have e5 : sl a14 5 = (.int .i64 (0)) := e5
   replace kw := kw.x hk
   clear hR hk hg hP
   refine tail_nil (hK13 _ _ ?_)
   refine wp_block ?_
   refine wp_for ((l[k]'hlt).ids.length) (fun j a W => ∃ (n3 : Nat), a.tmps.size = 41 ∧ a.defers = [] ∧ Keeps All w W ∧ sl a 0 = (.slice va (l.length) vc) ∧ sl a 3 = (.int .i64 ((n3 : Nat))) ∧ sl a 4 = (.int .i64 ((k : Nat))) ∧ sl a 5 = (.int .i64 ((j : Nat))) ∧ Rd W (SA w S []) (ausD (l)) (.slice va (l.length) vc) ∧ (szI (l[k]'hlt).ids n2 = szI ((l[k]'hlt).ids.drop j) n3) ∧ (n3 ≤ 10010)) ⟨n2, y14, zz14, kw, e0, (e3.trans (congrArg (Value.int .i64) (rfl))), e4, (e5.trans (congrArg (Value.int .i64) (rfl))), D_v, rfl, by omega⟩ ?_
   clear kw e0 e3 e4 e5 D_v
   rintro j a15 W15 hkj ⟨n3, y15, zz15, kw, e0, e3, e4, e5, D_v, hin2, hb3⟩
   refine wp_seq_k fun K16 hK16 => ?_
   refine wp_seq_k fun K17 hK17 => ?_
   refine rg mixed y15 zz15 ?_
   refine .i (sp_move (hbs rfl e5)) ?_
   refine .i (sp_move (hbs rfl e0)) ?_
   refine .i (sp_move (hbs rfl e4)) ?_
   refine .rf (X := SA w S []) (e := Au.d (l[k]'hlt)) (sp_indexL (i := k) ((hlc rfl).dat D_v sub_all) (hlc rfl) Try.underlying153 sz27 rfl hlt) ?_
   refine .rf (X := SA w S []) (e := strsD ((l[k]'hlt).ids)) (sp_fieldR (hlc rfl) Try.underlying27 rfl sz23 rfl (by first | rfl | simp [widths, width, hssD, width_V])) ?_
   refine .da (X := SA w S []) (e := strsD ((l[k]'hlt).ids)) (sp_loadR (hlc rfl) agg23 sz23 rfl) ?_
   refine .i (sp_lenSs Try.underlying23 (hlc rfl)) ?_
   refine .i (sp_lss (hlc rfl) (hlc rfl)) ?_
   refine .i (sp_move (hlc rfl)) ?_
   refine .e (t := 20) rfl (hlc rfl) (fun hg => sp_move (hbs rfl e3)) ?_
   refine .e (t := 20) rfl (hlc rfl) (fun hg => sp_lss ((hlc rfl).undE hg) Has.cst) ?_
   refine .i (sp_and (hlc rfl) ((hlc rfl).weak fun hq => hq)) ?_
   refine .done ⟨by kernel_rfl, fun a18 g W18 y18 zz18 hk hg hV hR hP => ?_⟩
   obtain ⟨e23, -, -, -, -, -, -, -, -, -, -, -, -⟩ := hV
   replace e0 := (hR 0 rfl).trans e0
   replace e3 := (hR 3 rfl).trans e3
   replace e4 := (hR 4 rfl).trans e4
   replace e5 := (hR 5 rfl).trans e5
   replace D_v := D_v.ext hk
   replace e23 := e23.q
   replace kw := kw.x hk
   clear hR hk hg hP
   refine tail_nil (hK17 _ _ ?_)
   refine wp_cond_split e23 (fun hc => ?_) (fun hc => ?_)
   ·
    simp at hc
    obtain ⟨hltj, hn3i⟩ := hc
    have hn3 : n3 < 5000 := by omega
    rw [List.drop_eq_getElem_cons hltj, szI, if_pos hn3] at hin2
    refine wp_skip (hK16 _ _ ?_)
    refine wp_seq_k fun K19 hK19 => ?_
    refine wp_block ?_
    refine rg mixed y18 zz18 ?_
    refine .i (sp_move (hbs rfl e3)) ?_
    refine .i (sp_add (hlc rfl) Has.cst (i64_in (by omega))) ?_
    refine .i (sp_move (hbs rfl e0)) ?_
    refine .i (sp_move (hbs rfl e4)) ?_
    refine .rf (X := SA w S []) (e := Au.d (l[k]'hlt)) (sp_indexL (i := k) ((hlc rfl).dat D_v sub_all) (hlc rfl) Try.underlying153 sz27 rfl hlt) ?_
    refine .rf (X := SA w S []) (e := strsD ((l[k]'hlt).ids)) (sp_fieldR (hlc rfl) Try.underlying27 rfl sz23 rfl (by first | rfl | simp [widths, width, hssD, width_V])) ?_
    refine .da (X := SA w S []) (e := strsD ((l[k]'hlt).ids)) (sp_loadR (hlc rfl) agg23 sz23 rfl) ?_
    refine .i (sp_move (hbs rfl e5)) ?_
    refine .rf (sp_indexS (i := j) (hlc rfl) (hlc rfl) Try.underlying23 sz9 rfl hltj) ?_
    refine .i (sp_loadStr (hlc rfl) agg9 sz9) ?_
    refine .i (sp_lenS Try.underlying9 (hlc rfl)) ?_
    refine .i (sp_min Has.cst (hlc rfl)) ?_
    refine .i (sp_add (hlc rfl) (hlc rfl) (i64_in (by omega))) ?_
    refine .i (sp_assign (hlc rfl)) ?_
    refine .done ⟨by kernel_rfl, fun a20 g W20 y20 zz20 hk hg hV hR hP => ?_⟩
    obtain ⟨e3, -, -, -, -, -, -, -, -, -, -, -, -, -, -⟩ := hV
    replace e0 := (hR 0 rfl).trans e0
    replace e4 := (hR 4 rfl).trans e4
    replace e5 := (hR 5 rfl).trans e5
    replace D_v := D_v.ext hk
    replace e3 := e3.q
    replace kw := kw.x hk
    clear hR hk hg hP
    refine tail_nil (hK19 _ _ ?_)
    refine rg mixed y20 zz20 ?_
    refine .i (sp_move (hbs rfl e5)) ?_
    refine .i (sp_add (hlc rfl) Has.cst (i64_in (by omega))) ?_
    refine .i (sp_assign (hlc rfl)) ?_
    refine .done ⟨by kernel_rfl, fun a21 g W21 y21 zz21 hk hg hV hR hP => ?_⟩
    obtain ⟨e5, -, -, -⟩ := hV
    replace e0 := (hR 0 rfl).trans e0
    replace e3 := (hR 3 rfl).trans e3
    replace e4 := (hR 4 rfl).trans e4
    replace D_v := D_v.ext hk
    replace e5 := e5.q
    replace kw := kw.x hk
    clear hR hk hg hP
    exact tail_nil ⟨hltj, (n3 + 10 + min 5000 ((l[k]'hlt).ids[j]'hltj).size), y21, zz21, kw, e0, (e3.trans (congrArg (Value.int .i64) (by push_cast; omega))), e4, (e5.trans (congrArg (Value.int .i64) (by simp))), D_v, hin2, by omega⟩
   ·
    have hfn : szI (l[k]'hlt).ids n2 = n3 := by
     rw [hin2]; simp at hc
     by_cases hltj : j < (l[k]'hlt).ids.length
     · exact szI_big _ (by have := hc hltj; omega)
     · rw [List.drop_eq_nil_of_le (by omega)]; rfl
    have hs1 := (szI_le (l[k]'hlt).ids n2).2
    rw [hfn] at hs1 hin
    refine wp_exit (hK12 _ _ ?_)
    refine rg mixed y18 zz18 ?_
    refine .i (sp_move (hbs rfl e4)) ?_
    refine .i (sp_add (hlc rfl) Has.cst (i64_in (by omega))) ?_
    refine .i (sp_assign (hlc rfl)) ?_
    refine .done ⟨by kernel_rfl, fun a22 g W22 y22 zz22 hk hg hV hR hP => ?_⟩
    obtain ⟨e4, -, -, -⟩ := hV
    replace e0 := (hR 0 rfl).trans e0
    replace e3 := (hR 3 rfl).trans e3
    replace D_v := D_v.ext hk
    replace e4 := e4.q
    replace kw := kw.x hk
    clear hR hk hg hP
    exact tail_nil ⟨hlt, n3, y22, zz22, kw, e0, (e3.trans (congrArg (Value.int .i64) (rfl))), (e4.trans (congrArg (Value.int .i64) (by simp))), D_v, hin, by omega⟩
  ·
   have hge0 : ¬ k < l.length := by simpa using hc
   have hge : k = l.length := by omega
   have hfin : szA l 0 = n2 := by rw [hin, hge, List.drop_length]; rfl
   refine wp_exit (hK5 _ _ ?_)
   refine wp_seq_k fun K23 hK23 => ?_
   refine rg mixed y11 zz11 ?_
   refine .i (sp_move (hbs rfl e3)) ?_
   refine .i (sp_geq (hlc rfl) Has.cst) ?_
   refine .i (sp_assign (hlc rfl)) ?_
   refine .done ⟨by kernel_rfl, fun a24 g W24 y24 zz24 hk hg hV hR hP => ?_⟩
   obtain ⟨e2, -, -, -⟩ := hV
   replace D_v := D_v.ext hk
   replace e2 := e2.q
   replace kw := kw.x hk
   clear hR hk hg hP
   refine tail_nil (hK23 _ _ ?_)
   refine wp_ret ?_
   refine (show bodyPost Try.prog Try.f49 _ .ret _ _ from ret1 rfl zz24 e2 ⟨_, rfl, kw, ?_⟩)
   rw [hfin]
   exact congrArg Value.bool (decide_eq_decide.2 (by omega))

end Go.Proofs.Ytnobijngkpflcaa
