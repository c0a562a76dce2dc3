/-
  The law RecordNames of package legatelaw21 (a closed statement) returns true. No condition beyond the row's own.
-/
import Derived.Test.YtnobijngkpflcaaRn5
import Derived.ProofKit
import Derived.Test.YtnobijngkpflcaaRows
namespace Go.Proofs.Ytnobijngkpflcaa
open Go.Eng
set_option maxRecDepth 100000 in
set_option maxHeartbeats 4000000 in
theorem RecordNames_ok (w : World) : Calls Try.prog 12 #[] w (Ret w fun u _ => u = .bool true) := by
  refine enter Try.func12 rfl Try.ntmps12 (lbr rfl) fun a0 y0 zz0 harg => ?_
  have kw := Keeps.refl All w
  clear harg
  refine wp_seq_k fun K1 hK1 => ?_
  refine rg mixed y0 zz0 ?_
  refine .i (sp_assign Has.cst) ?_
  refine .done ⟨by kernel_rfl, fun a2 g W2 y2 zz2 hk hg hV hR hP => ?_⟩
  obtain ⟨-, -⟩ := hV
  replace kw := kw.x hk
  clear hR hk hg hP
  refine tail_nil (hK1 _ _ ?_)
  refine wp_seq_k fun K3 hK3 => ?_
  refine wp_seq_k fun K4 hK4 => ?_
  refine rg mixed y2 zz2 ?_
  refine .i (v := (.bool (true))) (sp_call0  ent68  (fun g  W hk hgk  => awakeR_ok W)) ?_
  refine .i (sp_not (hlc rfl)) ?_
  refine .i (sp_move (hlc rfl)) ?_
  refine .i (sp_and (hlc rfl) (Has.cst.toU)) ?_
  refine .i (sp_move (hlc rfl)) ?_
  refine .i (sp_and (hlc rfl) (Has.cst.toU)) ?_
  refine .done ⟨by kernel_rfl, fun a5 g W5 y5 zz5 hk hg hV hR hP => ?_⟩
  obtain ⟨e22, -, -, -, -, -, -⟩ := hV
  have e22 : sl a5 22 = (.bool (((!true) && true) && true)) := e22
  replace kw := kw.x hk
  clear hR hk hg hP
  refine tail_nil (hK4 _ _ ?_)
  refine wp_cond_false (e22.trans (congrArg Value.bool (by decide))) ?_
  refine wp_skip (hK3 _ _ ?_)
  refine wp_seq_k fun K6 hK6 => ?_
  refine rg mixed y5 zz5 ?_
  refine .op (φ := IsArr W5 w.heap.size 5 1 (SF w []) (List.replicate (lit 130) (D.int .u8 (0 : Int))) none) st_arr (sp_mkA (n := (lit 130)) (zd := (D.int .u8 0)) Try.underlying25 inf5 z5 (lbr rfl) rdC_z8 Has.cst Has.cst (lbr rfl) (lbr rfl) (lbr rfl) kw.size) ?_
  refine .done ⟨by kernel_rfl, fun a7 g W7 y7 zz7 hk hg hV hR hP => ?_⟩
  obtain ⟨e23, -⟩ := hV
  obtain ⟨v23_7, ev⟩ : ∃ v, sl a7 23 = v := ⟨_, rfl⟩
  rw [ev] at e23
  obtain ⟨hd23_7, A_23_7, hf23_7⟩ := e23
  have e23 := ev; clear ev
  replace hf23_7 := row_new hf23_7
  obtain ⟨g23_7, c23_7, ev, hh⟩ := arr_open A_23_7 (by rw [List.length_replicate]; exact Nat.le_of_ble_eq_true rfl)
  rw [List.length_replicate] at ev; subst ev; subst hh
  replace A_23_7 := arrF_new A_23_7 (M' := (blks (some g23_7) ++ [])) (fun b hb => (List.mem_append.1 hb).symm)
  replace A_23_7 : Arr W7 w.heap.size 5 1 (SF w (blks (some g23_7) ++ [])) (List.map (D.int .u8) (List.replicate (lit 130) (0 : Int))) (.slice (some ⟨g23_7, 0, none⟩) (lit 130) c23_7) (some g23_7) := by rw [List.map_replicate]; exact A_23_7
  replace kw := kw.x hk
  clear hR hk hg hP hf23_7
  refine tail_assign (v := (.slice (some ⟨g23_7, 0, none⟩) (lit 130) c23_7)) e23 (by rw [y7]; exact Nat.le_of_ble_eq_true rfl) (fun a8 y8 zz8 e1 hr => ?_)
  replace y8 := y8.trans y7; replace zz8 := zz8.trans zz7
  replace e23 := (hr 23 (by decide)).trans e23
  clear hr
  refine tail_nil (hK6 _ _ ?_)
  refine wp_seq_k fun K9 hK9 => ?_
  refine wp_seq_k fun K10 hK10 => ?_
  refine rg mixed y8 zz8 ?_
  refine .i (sp_assign Has.cst) ?_
  refine .done ⟨by kernel_rfl, fun a11 g W11 y11 zz11 hk hg hV hR hP => ?_⟩
  obtain ⟨e2, -⟩ := hV
  replace e1 := (hR 1 rfl).trans e1
  replace A_23_7 := A_23_7.ext hk
  have e2 : sl a11 2 = (.int .i64 (0)) := e2
  replace kw := kw.x hk
  clear hR hk hg hP
  refine tail_nil (hK10 _ _ ?_)
  refine wp_block ?_
  rw [show List.replicate (lit 130) (0 : Int) = List.replicate 0 (102 : Int) ++ List.replicate (lit 130 - 0) (0 : Int) by rw [List.replicate_zero, Nat.sub_zero, List.nil_append]] at A_23_7
  refine wp_for (lit 130) (fun k a W => a.tmps.size = 280 ∧ a.defers = [] ∧ Keeps All w W ∧ sl a 1 = (.slice (some ⟨g23_7, 0, none⟩) (lit 130) c23_7) ∧ sl a 2 = (.int .i64 ((k : Nat))) ∧ Arr W w.heap.size 5 1 (SF w (blks (some g23_7) ++ [])) (List.map (D.int .u8) (List.replicate k (102 : Int) ++ List.replicate (lit 130 - k) (0 : Int))) (.slice (some ⟨g23_7, 0, none⟩) (lit 130) c23_7) (some g23_7)) ⟨y11, zz11, kw, e1, (e2.trans (congrArg (Value.int .i64) (rfl))), A_23_7⟩ ?_
  clear kw e1 e2 A_23_7
  rintro k a12 W12 hkk ⟨y12, zz12, kw, e1, e2, A1_12⟩
  refine wp_seq_k fun K13 hK13 => ?_
  refine wp_seq_k fun K14 hK14 => ?_
  refine rg mixed y12 zz12 ?_
  refine .i (sp_move (hbs rfl e2)) ?_
  refine .i (sp_move (hbs rfl e1)) ?_
  refine .i (sp_lenV Try.underlying25 (hlc rfl)) ?_
  refine .i (sp_lss (hlc rfl) (hlc rfl)) ?_
  refine .done ⟨by kernel_rfl, fun a15 g W15 y15 zz15 hk hg hV hR hP => ?_⟩
  obtain ⟨e27, -, -, -, -⟩ := hV
  replace e1 := (hR 1 rfl).trans e1
  replace e2 := (hR 2 rfl).trans e2
  replace A1_12 := A1_12.ext hk
  replace e27 := e27.q
  replace kw := kw.x hk
  clear hR hk hg hP
  refine tail_nil (hK14 _ _ ?_)
  refine wp_cond_split e27 (fun hc => ?_) (fun hc => ?_)
  ·
   have hl8 : lit 130 = 130 := rfl
   have hlt : k < lit 130 := by have := of_decide_eq_true hc; omega
   refine wp_skip (hK13 _ _ ?_)
   refine wp_seq_k fun K16 hK16 => ?_
   refine wp_block ?_
   refine rg mixed y15 zz15 ?_
   refine .i (sp_move (hbs rfl e1)) ?_
   refine .i (sp_move (hbs rfl e2)) ?_
   refine .i (v := (.pointer (some ⟨g23_7, k * 1, none⟩))) (sp_indexRow (i := k) (hlc rfl) (hlc rfl) Try.underlying25 sz5 (lbr rfl) rfl hlt rfl) ?_
   refine .done ⟨by kernel_rfl, fun a17 g W17 y17 zz17 hk hg hV hR hP => ?_⟩
   obtain ⟨e32, -, -, -⟩ := hV
   replace e1 := (hR 1 rfl).trans e1
   replace e2 := (hR 2 rfl).trans e2
   replace A1_12 := A1_12.ext hk
   have e32 : sl a17 32 = (.pointer (some ⟨g23_7, k * 1, none⟩)) := e32
   replace kw := kw.x hk
   clear hR hk hg hP
   refine tail_storeA (i := k) (dd := D.int .u8 (102)) e32 rfl sz5 A1_12 (by rw [List.length_map, List.length_append, List.length_replicate, List.length_replicate]; omega) rfl (sub_neF (by simp [blks])) rd_int rfl (fun W18 hs A_18 => ?_)
   rw [← List.map_set] at A_18
   replace A_18 : Arr W18 w.heap.size 5 1 (SF w (blks (some g23_7) ++ [])) (List.map (D.int .u8) ((List.replicate k (102 : Int) ++ List.replicate (lit 130 - k) (0 : Int)).set k (102 : Int))) (.slice (some ⟨g23_7, 0, none⟩) (lit 130) c23_7) (some g23_7) := A_18
   replace kw := keeps_store kw hs (A_18.ge _ (by simp [blks]))
   clear hs
   refine tail_nil (hK16 _ _ ?_)
   refine rg mixed y17 zz17 ?_
   refine .i (sp_move (hbs rfl e2)) ?_
   refine .i (sp_add (hlc rfl) Has.cst (i64_in (by omega))) ?_
   refine .i (sp_assign (hlc rfl)) ?_
   refine .done ⟨by kernel_rfl, fun a19 g W19 y19 zz19 hk hg hV hR hP => ?_⟩
   obtain ⟨e2, -, -, -⟩ := hV
   replace e1 := (hR 1 rfl).trans e1
   replace A_18 := A_18.ext hk
   replace e2 := e2.q
   replace kw := kw.x hk
   clear hR hk hg hP
   rw [show (List.replicate k (102 : Int) ++ List.replicate (lit 130 - k) (0 : Int)).set k (102 : Int) = List.replicate (k + 1) (102 : Int) ++ List.replicate (lit 130 - (k + 1)) (0 : Int) by exact rep_set hlt] at A_18
   exact tail_nil ⟨hlt, y19, zz19, kw, e1, (e2.trans (congrArg (Value.int .i64) (by simp))), A_18⟩
  ·
   have hge : k = lit 130 := by have := of_decide_eq_false hc; omega
   rw [show List.replicate k (102 : Int) ++ List.replicate (lit 130 - k) (0 : Int) = List.replicate (lit 130) (102 : Int) by rw [hge, Nat.sub_self, List.replicate_zero, List.append_nil]] at A1_12
   have D_v23_7 : Rd W15 (SF w []) (bytesD (List.replicate (lit 130) (102 : Int))) (.slice (some ⟨g23_7, 0, none⟩) (lit 130) c23_7) := arrF_rd A1_12 ls_nil nin_nil
   obtain ⟨v23_7a, v23_7c, ev, D2⟩ := rdB_out D_v23_7
   replace e1 := e1.trans ev
   replace D_v23_7 := D2; clear D2 ev
   refine wp_exit (hK9 _ _ ?_)
   refine wp_seq_k fun K20 hK20 => ?_
   refine wp_seq_k fun K21 hK21 => ?_
   refine rg mixed y15 zz15 ?_
   refine .i (v := (.agg #[(.slice none 0 0), (.bool (false))])) (sp_build (vs := [(0, (.slice none 0 0)), (1, (.bool (false)))]) Try.underlying112 z112 (pl112 Try.underlying112) ⟨rfl, Has.cst, rfl, Has.cst, trivial⟩ rfl) ?_
   refine .i (v := (.agg #[(.string (⟨#[97]⟩)), (.string (⟨#[97, 98]⟩))])) (sp_build (vs := [(0, (.string (⟨#[97]⟩))), (1, (.string (⟨#[97, 98]⟩)))]) Try.underlying114 z114 (pl114 Try.underlying114) ⟨rfl, Has.cst, rfl, Has.cst, trivial⟩ rfl) ?_
   refine .i (v := (.agg #[(.string (⟨#[98]⟩)), (.string (⟨#[99, 100]⟩))])) (sp_build (vs := [(0, (.string (⟨#[98]⟩))), (1, (.string (⟨#[99, 100]⟩)))]) Try.underlying114 z114 (pl114 Try.underlying114) ⟨rfl, Has.cst, rfl, Has.cst, trivial⟩ rfl) ?_
   refine .i (v := (.agg #[(.string (⟨#[99]⟩)), (.string (⟨#[48, 49]⟩))])) (sp_build (vs := [(0, (.string (⟨#[99]⟩))), (1, (.string (⟨#[48, 49]⟩)))]) Try.underlying114 z114 (pl114 Try.underlying114) ⟨rfl, Has.cst, rfl, Has.cst, trivial⟩ rfl) ?_
   refine .i (v := (.agg #[(.string (⟨#[100]⟩)), (.string (⟨#[50, 51]⟩))])) (sp_build (vs := [(0, (.string (⟨#[100]⟩))), (1, (.string (⟨#[50, 51]⟩)))]) Try.underlying114 z114 (pl114 Try.underlying114) ⟨rfl, Has.cst, rfl, Has.cst, trivial⟩ rfl) ?_
   refine .da (X := SF w []) (e := hssD ([Hs.mk (⟨#[97]⟩) (⟨#[97, 98]⟩), Hs.mk (⟨#[98]⟩) (⟨#[99, 100]⟩), Hs.mk (⟨#[99]⟩) (⟨#[48, 49]⟩), Hs.mk (⟨#[100]⟩) (⟨#[50, 51]⟩)])) (sp_bsl (ds := [Hs.d (Hs.mk (⟨#[97]⟩) (⟨#[97, 98]⟩)), Hs.d (Hs.mk (⟨#[98]⟩) (⟨#[99, 100]⟩)), Hs.d (Hs.mk (⟨#[99]⟩) (⟨#[48, 49]⟩)), Hs.d (Hs.mk (⟨#[100]⟩) (⟨#[50, 51]⟩))]) Try.underlying85 sz114 z114 (lbr rfl) (lbr rfl) ⟨rfl, ((hlc rfl).dat (rdHs_mk (lbr rfl) (lbr rfl) : Rd W15 (SF w []) (Hs.d (Hs.mk (⟨#[97]⟩) (⟨#[97, 98]⟩))) _) sub_all), ⟨rfl, ((hlc rfl).dat (rdHs_mk (lbr rfl) (lbr rfl) : Rd W15 (SF w []) (Hs.d (Hs.mk (⟨#[98]⟩) (⟨#[99, 100]⟩))) _) sub_all), ⟨rfl, ((hlc rfl).dat (rdHs_mk (lbr rfl) (lbr rfl) : Rd W15 (SF w []) (Hs.d (Hs.mk (⟨#[99]⟩) (⟨#[48, 49]⟩))) _) sub_all), ⟨rfl, ((hlc rfl).dat (rdHs_mk (lbr rfl) (lbr rfl) : Rd W15 (SF w []) (Hs.d (Hs.mk (⟨#[100]⟩) (⟨#[50, 51]⟩))) _) sub_all), trivial⟩⟩⟩⟩ rfl (by intro e he; simp at he; rcases he with rfl | rfl | rfl | rfl <;> exact width_Hs _) (fr_sf kw in_nil)) ?_
   refine .da (X := SF w []) (e := Rh.d (Rh.mk ([Hs.mk (⟨#[97]⟩) (⟨#[97, 98]⟩), Hs.mk (⟨#[98]⟩) (⟨#[99, 100]⟩), Hs.mk (⟨#[99]⟩) (⟨#[48, 49]⟩), Hs.mk (⟨#[100]⟩) (⟨#[50, 51]⟩)]) (true))) (sp_buildD (zd := [hssD [], D.bool false]) (es := [(0, hssD ([Hs.mk (⟨#[97]⟩) (⟨#[97, 98]⟩), Hs.mk (⟨#[98]⟩) (⟨#[99, 100]⟩), Hs.mk (⟨#[99]⟩) (⟨#[48, 49]⟩), Hs.mk (⟨#[100]⟩) (⟨#[50, 51]⟩)])), (1, D.bool (true))]) Try.underlying112 z112 (pl112 Try.underlying112) ⟨rfl, (hlc rfl), ⟨rfl, Has.cst.boo, trivial⟩⟩ zRh (by first | rfl | simp [plOf, width, width_V, hssD]) (by simp [fits, width, strsD, valsD, hssD, width_V]) rfl) ?_
   refine .i (v := (.agg #[(.string (⟨#[97]⟩)), (.string (⟨#[97, 98]⟩))])) (sp_build (vs := [(0, (.string (⟨#[97]⟩))), (1, (.string (⟨#[97, 98]⟩)))]) Try.underlying114 z114 (pl114 Try.underlying114) ⟨rfl, Has.cst, rfl, Has.cst, trivial⟩ rfl) ?_
   refine .i (v := (.agg #[(.string (⟨#[98]⟩)), (.string (⟨#[99, 100]⟩))])) (sp_build (vs := [(0, (.string (⟨#[98]⟩))), (1, (.string (⟨#[99, 100]⟩)))]) Try.underlying114 z114 (pl114 Try.underlying114) ⟨rfl, Has.cst, rfl, Has.cst, trivial⟩ rfl) ?_
   refine .i (v := (.agg #[(.string (⟨#[99]⟩)), (.string (⟨#[48, 49]⟩))])) (sp_build (vs := [(0, (.string (⟨#[99]⟩))), (1, (.string (⟨#[48, 49]⟩)))]) Try.underlying114 z114 (pl114 Try.underlying114) ⟨rfl, Has.cst, rfl, Has.cst, trivial⟩ rfl) ?_
   refine .i (v := (.agg #[(.string (⟨#[100]⟩)), (.string (⟨#[50, 51]⟩))])) (sp_build (vs := [(0, (.string (⟨#[100]⟩))), (1, (.string (⟨#[50, 51]⟩)))]) Try.underlying114 z114 (pl114 Try.underlying114) ⟨rfl, Has.cst, rfl, Has.cst, trivial⟩ rfl) ?_
   refine .i (v := (.agg #[(.string (⟨#[101]⟩)), (.string (⟨#[52, 53]⟩))])) (sp_build (vs := [(0, (.string (⟨#[101]⟩))), (1, (.string (⟨#[52, 53]⟩)))]) Try.underlying114 z114 (pl114 Try.underlying114) ⟨rfl, Has.cst, rfl, Has.cst, trivial⟩ rfl) ?_
   refine .da (X := SF w []) (e := hssD ([Hs.mk (⟨#[97]⟩) (⟨#[97, 98]⟩), Hs.mk (⟨#[98]⟩) (⟨#[99, 100]⟩), Hs.mk (⟨#[99]⟩) (⟨#[48, 49]⟩), Hs.mk (⟨#[100]⟩) (⟨#[50, 51]⟩), Hs.mk (⟨#[101]⟩) (⟨#[52, 53]⟩)])) (sp_bsl (ds := [Hs.d (Hs.mk (⟨#[97]⟩) (⟨#[97, 98]⟩)), Hs.d (Hs.mk (⟨#[98]⟩) (⟨#[99, 100]⟩)), Hs.d (Hs.mk (⟨#[99]⟩) (⟨#[48, 49]⟩)), Hs.d (Hs.mk (⟨#[100]⟩) (⟨#[50, 51]⟩)), Hs.d (Hs.mk (⟨#[101]⟩) (⟨#[52, 53]⟩))]) Try.underlying85 sz114 z114 (lbr rfl) (lbr rfl) ⟨rfl, ((hlc rfl).dat (rdHs_mk (lbr rfl) (lbr rfl) : Rd W15 (SF w []) (Hs.d (Hs.mk (⟨#[97]⟩) (⟨#[97, 98]⟩))) _) sub_all), ⟨rfl, ((hlc rfl).dat (rdHs_mk (lbr rfl) (lbr rfl) : Rd W15 (SF w []) (Hs.d (Hs.mk (⟨#[98]⟩) (⟨#[99, 100]⟩))) _) sub_all), ⟨rfl, ((hlc rfl).dat (rdHs_mk (lbr rfl) (lbr rfl) : Rd W15 (SF w []) (Hs.d (Hs.mk (⟨#[99]⟩) (⟨#[48, 49]⟩))) _) sub_all), ⟨rfl, ((hlc rfl).dat (rdHs_mk (lbr rfl) (lbr rfl) : Rd W15 (SF w []) (Hs.d (Hs.mk (⟨#[100]⟩) (⟨#[50, 51]⟩))) _) sub_all), ⟨rfl, ((hlc rfl).dat (rdHs_mk (lbr rfl) (lbr rfl) : Rd W15 (SF w []) (Hs.d (Hs.mk (⟨#[101]⟩) (⟨#[52, 53]⟩))) _) sub_all), trivial⟩⟩⟩⟩⟩ rfl (by intro e he; simp at he; rcases he with rfl | rfl | rfl | rfl | rfl <;> exact width_Hs _) (fr_sf kw in_nil)) ?_
   refine .da (X := SF w []) (e := Rh.d (Rh.mk ([Hs.mk (⟨#[97]⟩) (⟨#[97, 98]⟩), Hs.mk (⟨#[98]⟩) (⟨#[99, 100]⟩), Hs.mk (⟨#[99]⟩) (⟨#[48, 49]⟩), Hs.mk (⟨#[100]⟩) (⟨#[50, 51]⟩), Hs.mk (⟨#[101]⟩) (⟨#[52, 53]⟩)]) (false))) (sp_buildD (zd := [hssD [], D.bool false]) (es := [(0, hssD ([Hs.mk (⟨#[97]⟩) (⟨#[97, 98]⟩), Hs.mk (⟨#[98]⟩) (⟨#[99, 100]⟩), Hs.mk (⟨#[99]⟩) (⟨#[48, 49]⟩), Hs.mk (⟨#[100]⟩) (⟨#[50, 51]⟩), Hs.mk (⟨#[101]⟩) (⟨#[52, 53]⟩)])), (1, D.bool (false))]) Try.underlying112 z112 (pl112 Try.underlying112) ⟨rfl, (hlc rfl), ⟨rfl, Has.cst.boo, trivial⟩⟩ zRh (by first | rfl | simp [plOf, width, width_V, hssD]) (by simp [fits, width, strsD, valsD, hssD, width_V]) rfl) ?_
   refine .i (v := (.agg #[(.string (⟨#[98]⟩)), (.string (⟨#[97, 98]⟩))])) (sp_build (vs := [(0, (.string (⟨#[98]⟩))), (1, (.string (⟨#[97, 98]⟩)))]) Try.underlying114 z114 (pl114 Try.underlying114) ⟨rfl, Has.cst, rfl, Has.cst, trivial⟩ rfl) ?_
   refine .i (v := (.agg #[(.string (⟨#[97]⟩)), (.string (⟨#[99, 100]⟩))])) (sp_build (vs := [(0, (.string (⟨#[97]⟩))), (1, (.string (⟨#[99, 100]⟩)))]) Try.underlying114 z114 (pl114 Try.underlying114) ⟨rfl, Has.cst, rfl, Has.cst, trivial⟩ rfl) ?_
   refine .da (X := SF w []) (e := hssD ([Hs.mk (⟨#[98]⟩) (⟨#[97, 98]⟩), Hs.mk (⟨#[97]⟩) (⟨#[99, 100]⟩)])) (sp_bsl (ds := [Hs.d (Hs.mk (⟨#[98]⟩) (⟨#[97, 98]⟩)), Hs.d (Hs.mk (⟨#[97]⟩) (⟨#[99, 100]⟩))]) Try.underlying85 sz114 z114 (lbr rfl) (lbr rfl) ⟨rfl, ((hlc rfl).dat (rdHs_mk (lbr rfl) (lbr rfl) : Rd W15 (SF w []) (Hs.d (Hs.mk (⟨#[98]⟩) (⟨#[97, 98]⟩))) _) sub_all), ⟨rfl, ((hlc rfl).dat (rdHs_mk (lbr rfl) (lbr rfl) : Rd W15 (SF w []) (Hs.d (Hs.mk (⟨#[97]⟩) (⟨#[99, 100]⟩))) _) sub_all), trivial⟩⟩ rfl (by intro e he; simp at he; rcases he with rfl | rfl <;> exact width_Hs _) (fr_sf kw in_nil)) ?_
   refine .da (X := SF w []) (e := Rh.d (Rh.mk ([Hs.mk (⟨#[98]⟩) (⟨#[97, 98]⟩), Hs.mk (⟨#[97]⟩) (⟨#[99, 100]⟩)]) (false))) (sp_buildD (zd := [hssD [], D.bool false]) (es := [(0, hssD ([Hs.mk (⟨#[98]⟩) (⟨#[97, 98]⟩), Hs.mk (⟨#[97]⟩) (⟨#[99, 100]⟩)])), (1, D.bool (false))]) Try.underlying112 z112 (pl112 Try.underlying112) ⟨rfl, (hlc rfl), ⟨rfl, Has.cst.boo, trivial⟩⟩ zRh (by first | rfl | simp [plOf, width, width_V, hssD]) (by simp [fits, width, strsD, valsD, hssD, width_V]) rfl) ?_
   refine .i (v := (.agg #[(.string (⟨#[97]⟩)), (.string (⟨#[97, 98]⟩))])) (sp_build (vs := [(0, (.string (⟨#[97]⟩))), (1, (.string (⟨#[97, 98]⟩)))]) Try.underlying114 z114 (pl114 Try.underlying114) ⟨rfl, Has.cst, rfl, Has.cst, trivial⟩ rfl) ?_
   refine .i (v := (.agg #[(.string (⟨#[97]⟩)), (.string (⟨#[99, 100]⟩))])) (sp_build (vs := [(0, (.string (⟨#[97]⟩))), (1, (.string (⟨#[99, 100]⟩)))]) Try.underlying114 z114 (pl114 Try.underlying114) ⟨rfl, Has.cst, rfl, Has.cst, trivial⟩ rfl) ?_
   refine .da (X := SF w []) (e := hssD ([Hs.mk (⟨#[97]⟩) (⟨#[97, 98]⟩), Hs.mk (⟨#[97]⟩) (⟨#[99, 100]⟩)])) (sp_bsl (ds := [Hs.d (Hs.mk (⟨#[97]⟩) (⟨#[97, 98]⟩)), Hs.d (Hs.mk (⟨#[97]⟩) (⟨#[99, 100]⟩))]) Try.underlying85 sz114 z114 (lbr rfl) (lbr rfl) ⟨rfl, ((hlc rfl).dat (rdHs_mk (lbr rfl) (lbr rfl) : Rd W15 (SF w []) (Hs.d (Hs.mk (⟨#[97]⟩) (⟨#[97, 98]⟩))) _) sub_all), ⟨rfl, ((hlc rfl).dat (rdHs_mk (lbr rfl) (lbr rfl) : Rd W15 (SF w []) (Hs.d (Hs.mk (⟨#[97]⟩) (⟨#[99, 100]⟩))) _) sub_all), trivial⟩⟩ rfl (by intro e he; simp at he; rcases he with rfl | rfl <;> exact width_Hs _) (fr_sf kw in_nil)) ?_
   refine .da (X := SF w []) (e := Rh.d (Rh.mk ([Hs.mk (⟨#[97]⟩) (⟨#[97, 98]⟩), Hs.mk (⟨#[97]⟩) (⟨#[99, 100]⟩)]) (false))) (sp_buildD (zd := [hssD [], D.bool false]) (es := [(0, hssD ([Hs.mk (⟨#[97]⟩) (⟨#[97, 98]⟩), Hs.mk (⟨#[97]⟩) (⟨#[99, 100]⟩)])), (1, D.bool (false))]) Try.underlying112 z112 (pl112 Try.underlying112) ⟨rfl, (hlc rfl), ⟨rfl, Has.cst.boo, trivial⟩⟩ zRh (by first | rfl | simp [plOf, width, width_V, hssD]) (by simp [fits, width, strsD, valsD, hssD, width_V]) rfl) ?_
   refine .i (v := (.agg #[(.string (⟨#[97]⟩)), (.string (⟨#[]⟩))])) (sp_build (vs := [(0, (.string (⟨#[97]⟩)))]) Try.underlying114 z114 (pl114 Try.underlying114) ⟨rfl, Has.cst, trivial⟩ rfl) ?_
   refine .da (X := SF w []) (e := hssD ([Hs.mk (⟨#[97]⟩) (⟨#[]⟩)])) (sp_bsl (ds := [Hs.d (Hs.mk (⟨#[97]⟩) (⟨#[]⟩))]) Try.underlying85 sz114 z114 (lbr rfl) (lbr rfl) ⟨rfl, ((hlc rfl).dat (rdHs_mk (lbr rfl) (lbr rfl) : Rd W15 (SF w []) (Hs.d (Hs.mk (⟨#[97]⟩) (⟨#[]⟩))) _) sub_all), trivial⟩ rfl (by intro e he; simp at he; rcases he with rfl <;> exact width_Hs _) (fr_sf kw in_nil)) ?_
   refine .da (X := SF w []) (e := Rh.d (Rh.mk ([Hs.mk (⟨#[97]⟩) (⟨#[]⟩)]) (false))) (sp_buildD (zd := [hssD [], D.bool false]) (es := [(0, hssD ([Hs.mk (⟨#[97]⟩) (⟨#[]⟩)])), (1, D.bool (false))]) Try.underlying112 z112 (pl112 Try.underlying112) ⟨rfl, (hlc rfl), ⟨rfl, Has.cst.boo, trivial⟩⟩ zRh (by first | rfl | simp [plOf, width, width_V, hssD]) (by simp [fits, width, strsD, valsD, hssD, width_V]) rfl) ?_
   refine .i (v := (.agg #[(.string (⟨#[97]⟩)), (.string (⟨#[97, 98, 99]⟩))])) (sp_build (vs := [(0, (.string (⟨#[97]⟩))), (1, (.string (⟨#[97, 98, 99]⟩)))]) Try.underlying114 z114 (pl114 Try.underlying114) ⟨rfl, Has.cst, rfl, Has.cst, trivial⟩ rfl) ?_
   refine .da (X := SF w []) (e := hssD ([Hs.mk (⟨#[97]⟩) (⟨#[97, 98, 99]⟩)])) (sp_bsl (ds := [Hs.d (Hs.mk (⟨#[97]⟩) (⟨#[97, 98, 99]⟩))]) Try.underlying85 sz114 z114 (lbr rfl) (lbr rfl) ⟨rfl, ((hlc rfl).dat (rdHs_mk (lbr rfl) (lbr rfl) : Rd W15 (SF w []) (Hs.d (Hs.mk (⟨#[97]⟩) (⟨#[97, 98, 99]⟩))) _) sub_all), trivial⟩ rfl (by intro e he; simp at he; rcases he with rfl <;> exact width_Hs _) (fr_sf kw in_nil)) ?_
   refine .da (X := SF w []) (e := Rh.d (Rh.mk ([Hs.mk (⟨#[97]⟩) (⟨#[97, 98, 99]⟩)]) (false))) (sp_buildD (zd := [hssD [], D.bool false]) (es := [(0, hssD ([Hs.mk (⟨#[97]⟩) (⟨#[97, 98, 99]⟩)])), (1, D.bool (false))]) Try.underlying112 z112 (pl112 Try.underlying112) ⟨rfl, (hlc rfl), ⟨rfl, Has.cst.boo, trivial⟩⟩ zRh (by first | rfl | simp [plOf, width, width_V, hssD]) (by simp [fits, width, strsD, valsD, hssD, width_V]) rfl) ?_
   refine .i (v := (.agg #[(.string (⟨#[97]⟩)), (.string (⟨#[65, 66]⟩))])) (sp_build (vs := [(0, (.string (⟨#[97]⟩))), (1, (.string (⟨#[65, 66]⟩)))]) Try.underlying114 z114 (pl114 Try.underlying114) ⟨rfl, Has.cst, rfl, Has.cst, trivial⟩ rfl) ?_
   refine .da (X := SF w []) (e := hssD ([Hs.mk (⟨#[97]⟩) (⟨#[65, 66]⟩)])) (sp_bsl (ds := [Hs.d (Hs.mk (⟨#[97]⟩) (⟨#[65, 66]⟩))]) Try.underlying85 sz114 z114 (lbr rfl) (lbr rfl) ⟨rfl, ((hlc rfl).dat (rdHs_mk (lbr rfl) (lbr rfl) : Rd W15 (SF w []) (Hs.d (Hs.mk (⟨#[97]⟩) (⟨#[65, 66]⟩))) _) sub_all), trivial⟩ rfl (by intro e he; simp at he; rcases he with rfl <;> exact width_Hs _) (fr_sf kw in_nil)) ?_
   refine .da (X := SF w []) (e := Rh.d (Rh.mk ([Hs.mk (⟨#[97]⟩) (⟨#[65, 66]⟩)]) (false))) (sp_buildD (zd := [hssD [], D.bool false]) (es := [(0, hssD ([Hs.mk (⟨#[97]⟩) (⟨#[65, 66]⟩)])), (1, D.bool (false))]) Try.underlying112 z112 (pl112 Try.underlying112) ⟨rfl, (hlc rfl), ⟨rfl, Has.cst.boo, trivial⟩⟩ zRh (by first | rfl | simp [plOf, width, width_V, hssD]) (by simp [fits, width, strsD, valsD, hssD, width_V]) rfl) ?_
   refine .i (v := (.agg #[(.string (⟨#[]⟩)), (.string (⟨#[97, 98]⟩))])) (sp_build (vs := [(0, (.string (⟨#[]⟩))), (1, (.string (⟨#[97, 98]⟩)))]) Try.underlying114 z114 (pl114 Try.underlying114) ⟨rfl, Has.cst, rfl, Has.cst, trivial⟩ rfl) ?_
   refine .da (X := SF w []) (e := hssD ([Hs.mk (⟨#[]⟩) (⟨#[97, 98]⟩)])) (sp_bsl (ds := [Hs.d (Hs.mk (⟨#[]⟩) (⟨#[97, 98]⟩))]) Try.underlying85 sz114 z114 (lbr rfl) (lbr rfl) ⟨rfl, ((hlc rfl).dat (rdHs_mk (lbr rfl) (lbr rfl) : Rd W15 (SF w []) (Hs.d (Hs.mk (⟨#[]⟩) (⟨#[97, 98]⟩))) _) sub_all), trivial⟩ rfl (by intro e he; simp at he; rcases he with rfl <;> exact width_Hs _) (fr_sf kw in_nil)) ?_
   refine .da (X := SF w []) (e := Rh.d (Rh.mk ([Hs.mk (⟨#[]⟩) (⟨#[97, 98]⟩)]) (false))) (sp_buildD (zd := [hssD [], D.bool false]) (es := [(0, hssD ([Hs.mk (⟨#[]⟩) (⟨#[97, 98]⟩)])), (1, D.bool (false))]) Try.underlying112 z112 (pl112 Try.underlying112) ⟨rfl, (hlc rfl), ⟨rfl, Has.cst.boo, trivial⟩⟩ zRh (by first | rfl | simp [plOf, width, width_V, hssD]) (by simp [fits, width, strsD, valsD, hssD, width_V]) rfl) ?_
   refine .i (sp_move (hbs rfl e1)) ?_
   refine .da (X := SF w []) (e := bytesD ((List.replicate (lit 130) (102 : Int)).take 128)) (sp_sliceDB (h := 128) Try.underlying25 sz5 ((hlc rfl).dat D_v23_7 sub_all) Has.cst rfl (Nat.le_of_ble_eq_true (by kernel_rfl)) (Nat.le_of_ble_eq_true (by kernel_rfl))) ?_
   refine .i (v := (.string (ofBytes ((List.replicate (lit 130) (102 : Int)).take 128)))) (sp_b2s Try.underlying25 Try.underlying5 Try.underlying9 (hlc rfl)) ?_
   refine .i (v := (.agg #[(.string (⟨#[97]⟩)), (.string (ofBytes ((List.replicate (lit 130) (102 : Int)).take 128)))])) (sp_build (vs := [(0, (.string (⟨#[97]⟩))), (1, (.string (ofBytes ((List.replicate (lit 130) (102 : Int)).take 128))))]) Try.underlying114 z114 (pl114 Try.underlying114) ⟨rfl, Has.cst, rfl, (hlc rfl), trivial⟩ rfl) ?_
   refine .da (X := SF w []) (e := hssD ([Hs.mk (⟨#[97]⟩) (ofBytes ((List.replicate (lit 130) (102 : Int)).take 128))])) (sp_bsl (ds := [Hs.d (Hs.mk (⟨#[97]⟩) (ofBytes ((List.replicate (lit 130) (102 : Int)).take 128)))]) Try.underlying85 sz114 z114 (lbr rfl) (lbr rfl) ⟨rfl, ((hlc rfl).dat (rdHs_mk (lbr rfl) (Nat.le_of_ble_eq_true (by kernel_rfl)) : Rd W15 (SF w []) (Hs.d (Hs.mk (⟨#[97]⟩) (ofBytes ((List.replicate (lit 130) (102 : Int)).take 128)))) _) sub_all), trivial⟩ rfl (by intro e he; simp at he; rcases he with rfl <;> exact width_Hs _) (fr_sf kw in_nil)) ?_
   refine .da (X := SF w []) (e := Rh.d (Rh.mk ([Hs.mk (⟨#[97]⟩) (ofBytes ((List.replicate (lit 130) (102 : Int)).take 128))]) (true))) (sp_buildD (zd := [hssD [], D.bool false]) (es := [(0, hssD ([Hs.mk (⟨#[97]⟩) (ofBytes ((List.replicate (lit 130) (102 : Int)).take 128))])), (1, D.bool (true))]) Try.underlying112 z112 (pl112 Try.underlying112) ⟨rfl, (hlc rfl), ⟨rfl, Has.cst.boo, trivial⟩⟩ zRh (by first | rfl | simp [plOf, width, width_V, hssD]) (by simp [fits, width, strsD, valsD, hssD, width_V]) rfl) ?_
   refine .i (sp_move (hbs rfl e1)) ?_
   refine .i (v := (.string (ofBytes (List.replicate (lit 130) (102 : Int))))) (sp_b2s Try.underlying25 Try.underlying5 Try.underlying9 ((hlc rfl).dat D_v23_7 sub_all)) ?_
   refine .i (v := (.agg #[(.string (⟨#[97]⟩)), (.string (ofBytes (List.replicate (lit 130) (102 : Int))))])) (sp_build (vs := [(0, (.string (⟨#[97]⟩))), (1, (.string (ofBytes (List.replicate (lit 130) (102 : Int)))))]) Try.underlying114 z114 (pl114 Try.underlying114) ⟨rfl, Has.cst, rfl, (hlc rfl), trivial⟩ rfl) ?_
   refine .da (X := SF w []) (e := hssD ([Hs.mk (⟨#[97]⟩) (ofBytes (List.replicate (lit 130) (102 : Int)))])) (sp_bsl (ds := [Hs.d (Hs.mk (⟨#[97]⟩) (ofBytes (List.replicate (lit 130) (102 : Int))))]) Try.underlying85 sz114 z114 (lbr rfl) (lbr rfl) ⟨rfl, ((hlc rfl).dat (rdHs_mk (lbr rfl) (Nat.le_of_ble_eq_true (by kernel_rfl)) : Rd W15 (SF w []) (Hs.d (Hs.mk (⟨#[97]⟩) (ofBytes (List.replicate (lit 130) (102 : Int))))) _) sub_all), trivial⟩ rfl (by intro e he; simp at he; rcases he with rfl <;> exact width_Hs _) (fr_sf kw in_nil)) ?_
   refine .da (X := SF w []) (e := Rh.d (Rh.mk ([Hs.mk (⟨#[97]⟩) (ofBytes (List.replicate (lit 130) (102 : Int)))]) (false))) (sp_buildD (zd := [hssD [], D.bool false]) (es := [(0, hssD ([Hs.mk (⟨#[97]⟩) (ofBytes (List.replicate (lit 130) (102 : Int)))])), (1, D.bool (false))]) Try.underlying112 z112 (pl112 Try.underlying112) ⟨rfl, (hlc rfl), ⟨rfl, Has.cst.boo, trivial⟩⟩ zRh (by first | rfl | simp [plOf, width, width_V, hssD]) (by simp [fits, width, strsD, valsD, hssD, width_V]) rfl) ?_
   refine .da (X := SF w []) (e := rhsD ([Rh.mk ([]) (false), Rh.mk ([Hs.mk (⟨#[97]⟩) (⟨#[97, 98]⟩), Hs.mk (⟨#[98]⟩) (⟨#[99, 100]⟩), Hs.mk (⟨#[99]⟩) (⟨#[48, 49]⟩), Hs.mk (⟨#[100]⟩) (⟨#[50, 51]⟩)]) (true), Rh.mk ([Hs.mk (⟨#[97]⟩) (⟨#[97, 98]⟩), Hs.mk (⟨#[98]⟩) (⟨#[99, 100]⟩), Hs.mk (⟨#[99]⟩) (⟨#[48, 49]⟩), Hs.mk (⟨#[100]⟩) (⟨#[50, 51]⟩), Hs.mk (⟨#[101]⟩) (⟨#[52, 53]⟩)]) (false), Rh.mk ([Hs.mk (⟨#[98]⟩) (⟨#[97, 98]⟩), Hs.mk (⟨#[97]⟩) (⟨#[99, 100]⟩)]) (false), Rh.mk ([Hs.mk (⟨#[97]⟩) (⟨#[97, 98]⟩), Hs.mk (⟨#[97]⟩) (⟨#[99, 100]⟩)]) (false), Rh.mk ([Hs.mk (⟨#[97]⟩) (⟨#[]⟩)]) (false), Rh.mk ([Hs.mk (⟨#[97]⟩) (⟨#[97, 98, 99]⟩)]) (false), Rh.mk ([Hs.mk (⟨#[97]⟩) (⟨#[65, 66]⟩)]) (false), Rh.mk ([Hs.mk (⟨#[]⟩) (⟨#[97, 98]⟩)]) (false), Rh.mk ([Hs.mk (⟨#[97]⟩) (ofBytes ((List.replicate (lit 130) (102 : Int)).take 128))]) (true), Rh.mk ([Hs.mk (⟨#[97]⟩) (ofBytes (List.replicate (lit 130) (102 : Int)))]) (false)])) (sp_bsl (ds := [Rh.d (Rh.mk ([]) (false)), Rh.d (Rh.mk ([Hs.mk (⟨#[97]⟩) (⟨#[97, 98]⟩), Hs.mk (⟨#[98]⟩) (⟨#[99, 100]⟩), Hs.mk (⟨#[99]⟩) (⟨#[48, 49]⟩), Hs.mk (⟨#[100]⟩) (⟨#[50, 51]⟩)]) (true)), Rh.d (Rh.mk ([Hs.mk (⟨#[97]⟩) (⟨#[97, 98]⟩), Hs.mk (⟨#[98]⟩) (⟨#[99, 100]⟩), Hs.mk (⟨#[99]⟩) (⟨#[48, 49]⟩), Hs.mk (⟨#[100]⟩) (⟨#[50, 51]⟩), Hs.mk (⟨#[101]⟩) (⟨#[52, 53]⟩)]) (false)), Rh.d (Rh.mk ([Hs.mk (⟨#[98]⟩) (⟨#[97, 98]⟩), Hs.mk (⟨#[97]⟩) (⟨#[99, 100]⟩)]) (false)), Rh.d (Rh.mk ([Hs.mk (⟨#[97]⟩) (⟨#[97, 98]⟩), Hs.mk (⟨#[97]⟩) (⟨#[99, 100]⟩)]) (false)), Rh.d (Rh.mk ([Hs.mk (⟨#[97]⟩) (⟨#[]⟩)]) (false)), Rh.d (Rh.mk ([Hs.mk (⟨#[97]⟩) (⟨#[97, 98, 99]⟩)]) (false)), Rh.d (Rh.mk ([Hs.mk (⟨#[97]⟩) (⟨#[65, 66]⟩)]) (false)), Rh.d (Rh.mk ([Hs.mk (⟨#[]⟩) (⟨#[97, 98]⟩)]) (false)), Rh.d (Rh.mk ([Hs.mk (⟨#[97]⟩) (ofBytes ((List.replicate (lit 130) (102 : Int)).take 128))]) (true)), Rh.d (Rh.mk ([Hs.mk (⟨#[97]⟩) (ofBytes (List.replicate (lit 130) (102 : Int)))]) (false))]) Try.underlying115 sz112 z112 (lbr rfl) (lbr rfl) ⟨rfl, ((hlc rfl).dat (rdRh_mk (rd_nil _) : Rd W15 (SF w []) (Rh.d (Rh.mk ([]) (false))) _) sub_all), ⟨rfl, (hlc rfl), ⟨rfl, (hlc rfl), ⟨rfl, (hlc rfl), ⟨rfl, (hlc rfl), ⟨rfl, (hlc rfl), ⟨rfl, (hlc rfl), ⟨rfl, (hlc rfl), ⟨rfl, (hlc rfl), ⟨rfl, (hlc rfl), ⟨rfl, (hlc rfl), trivial⟩⟩⟩⟩⟩⟩⟩⟩⟩⟩⟩ rfl (by intro e he; simp at he; rcases he with rfl | rfl | rfl | rfl | rfl | rfl | rfl | rfl | rfl | rfl | rfl <;> exact width_Rh _) (fr_sf kw in_nil)) ?_
   refine .i (sp_lenL Try.underlying115 (hlc rfl)) ?_
   refine .i (sp_move Has.cst) ?_
   refine .done ⟨by kernel_rfl, fun a22 g W22 y22 zz22 hk hg hV hR hP => ?_⟩
   obtain ⟨e80, e79, e78, -, -, -, -, -, -, -, -, -, -, -, -, -, -, -, -, -, -, -, -, -, -, -, -, -, -, -, -, -, -, -, -, -, -, -, -, -, -, -, -, -, -, -, -, -, -⟩ := hV
   replace D_v23_7 := D_v23_7.ext hk
   obtain ⟨v78_22, ev⟩ : ∃ v, sl a22 78 = v := ⟨_, rfl⟩
   rw [ev] at e78
   have D_v78_22 : Rd W22 (SF w []) (rhsD ([Rh.mk ([]) (false), Rh.mk ([Hs.mk (⟨#[97]⟩) (⟨#[97, 98]⟩), Hs.mk (⟨#[98]⟩) (⟨#[99, 100]⟩), Hs.mk (⟨#[99]⟩) (⟨#[48, 49]⟩), Hs.mk (⟨#[100]⟩) (⟨#[50, 51]⟩)]) (true), Rh.mk ([Hs.mk (⟨#[97]⟩) (⟨#[97, 98]⟩), Hs.mk (⟨#[98]⟩) (⟨#[99, 100]⟩), Hs.mk (⟨#[99]⟩) (⟨#[48, 49]⟩), Hs.mk (⟨#[100]⟩) (⟨#[50, 51]⟩), Hs.mk (⟨#[101]⟩) (⟨#[52, 53]⟩)]) (false), Rh.mk ([Hs.mk (⟨#[98]⟩) (⟨#[97, 98]⟩), Hs.mk (⟨#[97]⟩) (⟨#[99, 100]⟩)]) (false), Rh.mk ([Hs.mk (⟨#[97]⟩) (⟨#[97, 98]⟩), Hs.mk (⟨#[97]⟩) (⟨#[99, 100]⟩)]) (false), Rh.mk ([Hs.mk (⟨#[97]⟩) (⟨#[]⟩)]) (false), Rh.mk ([Hs.mk (⟨#[97]⟩) (⟨#[97, 98, 99]⟩)]) (false), Rh.mk ([Hs.mk (⟨#[97]⟩) (⟨#[65, 66]⟩)]) (false), Rh.mk ([Hs.mk (⟨#[]⟩) (⟨#[97, 98]⟩)]) (false), Rh.mk ([Hs.mk (⟨#[97]⟩) (ofBytes ((List.replicate (lit 130) (102 : Int)).take 128))]) (true), Rh.mk ([Hs.mk (⟨#[97]⟩) (ofBytes (List.replicate (lit 130) (102 : Int)))]) (false)])) v78_22 := sf_end e78 hk [] in_nil
   replace e78 := ev; clear ev
   obtain ⟨v78_22a, v78_22c, ev, D2⟩ := rdRhs_out D_v78_22
   subst ev; replace D_v78_22 := D2; clear D2
   replace e79 := e79.q
   have e80 : sl a22 80 = (.int .i64 (0)) := e80
   replace kw := kw.x hk
   clear hR hk hg hP
   obtain ⟨L, hL⟩ : ∃ L, L = [Rh.mk ([]) (false), Rh.mk ([Hs.mk (⟨#[97]⟩) (⟨#[97, 98]⟩), Hs.mk (⟨#[98]⟩) (⟨#[99, 100]⟩), Hs.mk (⟨#[99]⟩) (⟨#[48, 49]⟩), Hs.mk (⟨#[100]⟩) (⟨#[50, 51]⟩)]) (true), Rh.mk ([Hs.mk (⟨#[97]⟩) (⟨#[97, 98]⟩), Hs.mk (⟨#[98]⟩) (⟨#[99, 100]⟩), Hs.mk (⟨#[99]⟩) (⟨#[48, 49]⟩), Hs.mk (⟨#[100]⟩) (⟨#[50, 51]⟩), Hs.mk (⟨#[101]⟩) (⟨#[52, 53]⟩)]) (false), Rh.mk ([Hs.mk (⟨#[98]⟩) (⟨#[97, 98]⟩), Hs.mk (⟨#[97]⟩) (⟨#[99, 100]⟩)]) (false), Rh.mk ([Hs.mk (⟨#[97]⟩) (⟨#[97, 98]⟩), Hs.mk (⟨#[97]⟩) (⟨#[99, 100]⟩)]) (false), Rh.mk ([Hs.mk (⟨#[97]⟩) (⟨#[]⟩)]) (false), Rh.mk ([Hs.mk (⟨#[97]⟩) (⟨#[97, 98, 99]⟩)]) (false), Rh.mk ([Hs.mk (⟨#[97]⟩) (⟨#[65, 66]⟩)]) (false), Rh.mk ([Hs.mk (⟨#[]⟩) (⟨#[97, 98]⟩)]) (false), Rh.mk ([Hs.mk (⟨#[97]⟩) (ofBytes ((List.replicate (lit 130) (102 : Int)).take 128))]) (true), Rh.mk ([Hs.mk (⟨#[97]⟩) (ofBytes (List.replicate (lit 130) (102 : Int)))]) (false)] := ⟨_, rfl⟩
   rw [← hL] at e78 e79 D_v78_22
   have hall : L.all rowH = true := by rw [hL]; kernel_rfl
   have hlen : L.length = 11 := by rw [hL]; rfl
   clear hL
   refine tail_nil (hK21 _ _ ?_)
   refine wp_block ?_
   refine wp_for (L.length) (fun k a W => a.tmps.size = 280 ∧ a.defers = [] ∧ Keeps All w W ∧ sl a 78 = (.slice v78_22a (L.length) v78_22c) ∧ sl a 79 = (.int .i64 (L.length)) ∧ sl a 80 = (.int .i64 ((k : Nat))) ∧ Rd W (SF w []) (rhsD (L)) (.slice v78_22a (L.length) v78_22c)) ⟨y22, zz22, kw, e78, e79, (e80.trans (congrArg (Value.int .i64) (rfl))), D_v78_22⟩ ?_
   clear kw e78 e79 e80 D_v78_22
   rintro k a23 W23 hkk ⟨y23, zz23, kw, e78, e79, e80, D_v78_22⟩
   refine wp_seq_k fun K24 hK24 => ?_
   refine rg mixed y23 zz23 ?_
   refine .i (sp_lss (hbs rfl e80) (hbs rfl e79)) ?_
   refine .done ⟨by kernel_rfl, fun a25 g W25 y25 zz25 hk hg hV hR hP => ?_⟩
   obtain ⟨e81, -⟩ := hV
   replace e78 := (hR 78 rfl).trans e78
   replace e79 := (hR 79 rfl).trans e79
   replace e80 := (hR 80 rfl).trans e80
   replace D_v78_22 := D_v78_22.ext hk
   replace e81 := e81.q
   replace kw := kw.x hk
   clear hR hk hg hP
   refine tail_nil (hK24 _ _ ?_)
   refine wp_seq_k fun K26 hK26 => ?_
   refine wp_cond_split e81 (fun hc => ?_) (fun hc => ?_)
   ·
    have hlt : k < L.length := by simpa using hc
    have hro := rowH_get hall hlt
    refine wp_skip (hK26 _ _ ?_)
    refine wp_seq_k fun K27 hK27 => ?_
    refine wp_block ?_
    refine wp_seq_k fun K28 hK28 => ?_
    refine rg mixed y25 zz25 ?_
    refine .rf (X := SF w []) (e := Rh.d (L[k]'hlt)) (sp_indexL (i := k) ((hbs rfl e78).dat D_v78_22 sub_all) (hbs rfl e80) Try.underlying115 sz112 rfl hlt) ?_
    refine .da (X := SF w []) (e := Rh.d (L[k]'hlt)) (sp_loadR (hlc rfl) agg112 sz112 (width_Rh _)) ?_
    refine .alloc z112 ?_
    refine .done ⟨by kernel_rfl, fun a29 g W29 y29 zz29 hk hg hV hR hP => ?_⟩
    obtain ⟨⟨b4_29, e4, hb4, own_b4_29⟩, e83, -, -⟩ := hV
    have lo_b4_29 : w.heap.size ≤ b4_29 := Nat.le_trans kw.size (hg.lo _ _ hb4)
    have own_b4_29 : Own W29 b4_29 [(.slice none 0 0), (.bool (false))] 112 := own_b4_29
    replace e78 := (hR 78 rfl).trans e78
    replace e79 := (hR 79 rfl).trans e79
    replace e80 := (hR 80 rfl).trans e80
    replace D_v78_22 := sf_more D_v78_22 hk [b4_29] (in_cons (hg.lo _ _ hb4) in_nil)
    obtain ⟨v83_29, ev⟩ : ∃ v, sl a29 83 = v := ⟨_, rfl⟩
    rw [ev] at e83
    have D_v83_29 : Rd W29 (SF w [b4_29]) (Rh.d (L[k]'hlt)) v83_29 := sf_end e83 hk [b4_29] (in_cons ⟨_, hb4⟩ in_nil)
    replace e83 := ev; clear ev
    obtain ⟨v83_29_0a, v83_29_0c, ev, D_v83_29_0⟩ := rdRh_out D_v83_29
    subst ev; clear D_v83_29
    replace kw := kw.x hk
    clear hR hk hg hP hb4
    refine tail_store (b := b4_29) (o := 0) (v := (.agg #[(.slice v83_29_0a (((L[k]'hlt).l).length) v83_29_0c), (.bool ((L[k]'hlt).v))])) e4 e83 sz112 rfl own_b4_29 (lbr rfl) (all_cons rfl (all_cons rfl all_nil)) (fun W30 hs own_b4_29 => ?_)
    have own_b4_29 : Own W30 b4_29 [(.slice v83_29_0a (((L[k]'hlt).l).length) v83_29_0c), (.bool ((L[k]'hlt).v))] 112 := own_b4_29
    replace D_v78_22 := sf_store D_v78_22 hs (by simp)
    replace D_v83_29_0 := sf_store D_v83_29_0 hs (by simp)
    replace kw := keeps_store kw hs lo_b4_29
    clear hs
    refine tail_nil (hK28 _ _ ?_)
    refine wp_seq_k fun K31 hK31 => ?_
    refine rg mixed y29 zz29 ?_
    refine .i (fo 0 (hbs rfl e4) Try.underlying112 rfl sz85 rfl) ?_
    refine .i (lo1 (hlc rfl) own_b4_29 trivial agg85 sz85 rfl) ?_
    refine .i (v := (.bool (mayH ((L[k]'hlt).l)))) (sp_call1 (φ1 := IsD (SF w [b4_29]) (hssD ((L[k]'hlt).l))) ent69 ((hlc rfl).dat D_v83_29_0 sub_all) (fun g u1 W hk hgk h1 => MayHashes_ok ((L[k]'hlt).l) W _ _ h1)) ?_
    refine .i (fo 1 (hbs rfl e4) Try.underlying112 rfl sz4 rfl) ?_
    refine .i (lo1 (hlc rfl) own_b4_29 trivial agg4 sz4 rfl) ?_
    refine .i (sp_bNeq Try.underlying4 (hlc rfl) (hlc rfl)) ?_
    refine .i (sp_move (hlc rfl)) ?_
    refine .e (t := 90) rfl (hlc rfl) (fun hg => fo 0 (hbs rfl e4) Try.underlying112 rfl sz85 rfl) ?_
    refine .e (t := 90) rfl (hlc rfl) (fun hg => lo1 ((hlc rfl).undE hg) own_b4_29 trivial agg85 sz85 rfl) ?_
    refine .e (t := 90) (v := (.agg #[(.int .i64 (0)), (.slice v83_29_0a (((L[k]'hlt).l).length) v83_29_0c), (.int .u8 (0)), (.int .i64 (0)), (.string (⟨#[]⟩)), (.slice none 0 0), (.slice none 0 0)])) rfl (hlc rfl) (fun hg => sp_build (vs := [(1, (.slice v83_29_0a (((L[k]'hlt).l).length) v83_29_0c))]) Try.underlying87 z87 (pl87 Try.underlying87) ⟨rfl, ((hlc rfl).undE hg), trivial⟩ rfl) ?_
    refine .e (t := 90) (v := (.bool (mayR (Rc.mk (0) ((L[k]'hlt).l) (V.mk (0) (0) (⟨#[]⟩) ([]) ([])))))) rfl (hlc rfl) (fun hg => sp_call1 (φ1 := IsD (SF w [b4_29]) (Rc.d (Rc.mk (0) ((L[k]'hlt).l) (V.mk (0) (0) (⟨#[]⟩) ([]) ([]))))) ent70 (((hlc rfl).undE hg).dat (rdRc_mk D_v83_29_0 (rdV_mk (lbr rfl) (rd_nil _) (rd_nil _) : Rd W30 (SF w [b4_29]) (V.d (V.mk (0) (0) (⟨#[]⟩) ([]) ([]))) _) : Rd W30 (SF w [b4_29]) (Rc.d (Rc.mk (0) ((L[k]'hlt).l) (V.mk (0) (0) (⟨#[]⟩) ([]) ([])))) _) sub_all) (fun g u1 W hk hgk h1 => MayR_ok (Rc.mk (0) ((L[k]'hlt).l) (V.mk (0) (0) (⟨#[]⟩) ([]) ([]))) (Nat.le_of_ble_eq_true (by kernel_rfl)) W _ _ (fun b o h => h.1.2.1) h1)) ?_
    refine .e (t := 90) rfl (hlc rfl) (fun hg => fo 1 (hbs rfl e4) Try.underlying112 rfl sz4 rfl) ?_
    refine .e (t := 90) rfl (hlc rfl) (fun hg => lo1 ((hlc rfl).undE hg) own_b4_29 trivial agg4 sz4 rfl) ?_
    refine .e (t := 90) rfl (hlc rfl) (fun hg => sp_bNeq Try.underlying4 ((hlc rfl).undE hg) ((hlc rfl).undE hg)) ?_
    refine .i (sp_or (hlc rfl) ((hlc rfl).weak fun hq => hq)) ?_
    refine .done ⟨by kernel_rfl, fun a32 g W32 y32 zz32 hk hg hV hR hP => ?_⟩
    obtain ⟨e98, -, -, -, -, -, -, -, -, -, -, -, -, -, -, -⟩ := hV
    replace e78 := (hR 78 rfl).trans e78
    replace e79 := (hR 79 rfl).trans e79
    replace e80 := (hR 80 rfl).trans e80
    replace D_v78_22 := D_v78_22.ext hk
    replace D_v83_29_0 := D_v83_29_0.ext hk
    replace e98 := e98.q
    replace own_b4_29 := own_b4_29.ext hk
    replace kw := kw.x hk
    clear hR hk hg hP
    refine tail_nil (hK31 _ _ ?_)
    refine wp_cond_split e98 (fun hc => ?_) (fun hc => ?_)
    ·
     exfalso
     rw [hro.1, show (Rc.mk 0 (L[k]).l (V.mk 0 0 ⟨#[]⟩ [] [])) = ⟨0, (L[k]).l, ⟨0, 0, ⟨#[]⟩, [], []⟩⟩ from rfl, hro.2] at hc
     simp at hc
    ·
     refine wp_skip (hK27 _ _ ?_)
     refine rg mixed y32 zz32 ?_
     refine .i (sp_add (hbs rfl e80) Has.cst (i64_in (by omega))) ?_
     refine .i (sp_move (hlc rfl)) ?_
     refine .done ⟨by kernel_rfl, fun a33 g W33 y33 zz33 hk hg hV hR hP => ?_⟩
     obtain ⟨e80, -, -⟩ := hV
     replace e78 := (hR 78 rfl).trans e78
     replace e79 := (hR 79 rfl).trans e79
     replace D_v78_22 := D_v78_22.ext hk
     replace e80 := e80.q
     replace own_b4_29 := own_b4_29.ext hk
     replace kw := kw.x hk
     clear hR hk hg hP
     exact tail_nil ⟨hlt, y33, zz33, kw, e78, e79, (e80.trans (congrArg (Value.int .i64) (by simp))), (sf_less D_v78_22 ls_nil)⟩
   ·
    have hge0 : ¬ k < L.length := by simpa using hc
    have hge : k = L.length := by omega
    refine wp_exit (hK20 _ _ ?_)
    refine wp_seq_k fun K34 hK34 => ?_
    refine rg mixed y25 zz25 ?_
    refine .i (v := (.agg #[(.string (⟨#[115, 104, 97, 50, 53, 54]⟩)), (.string (⟨#[97, 98]⟩))])) (sp_build (vs := [(0, (.string (⟨#[115, 104, 97, 50, 53, 54]⟩))), (1, (.string (⟨#[97, 98]⟩)))]) Try.underlying114 z114 (pl114 Try.underlying114) ⟨rfl, Has.cst, rfl, Has.cst, trivial⟩ rfl) ?_
    refine .da (X := SF w []) (e := hssD ([Hs.mk (⟨#[115, 104, 97, 50, 53, 54]⟩) (⟨#[97, 98]⟩)])) (sp_bsl (ds := [Hs.d (Hs.mk (⟨#[115, 104, 97, 50, 53, 54]⟩) (⟨#[97, 98]⟩))]) Try.underlying85 sz114 z114 (lbr rfl) (lbr rfl) ⟨rfl, ((hlc rfl).dat (rdHs_mk (lbr rfl) (lbr rfl) : Rd W25 (SF w []) (Hs.d (Hs.mk (⟨#[115, 104, 97, 50, 53, 54]⟩) (⟨#[97, 98]⟩))) _) sub_all), trivial⟩ rfl (by intro e he; simp at he; rcases he with rfl <;> exact width_Hs _) (fr_sf kw in_nil)) ?_
    refine .da (X := SF w []) (e := hssD ([Hs.mk (⟨#[115, 104, 97, 50, 53, 54]⟩) (⟨#[97, 98]⟩)])) (sp_assign (hlc rfl)) ?_
    refine .done ⟨by kernel_rfl, fun a35 g W35 y35 zz35 hk hg hV hR hP => ?_⟩
    obtain ⟨e5, -, -, -⟩ := hV
    replace D_v78_22 := D_v78_22.ext hk
    obtain ⟨v5_35, ev⟩ : ∃ v, sl a35 5 = v := ⟨_, rfl⟩
    rw [ev] at e5
    have D_v5_35 : Rd W35 (SF w []) (hssD ([Hs.mk (⟨#[115, 104, 97, 50, 53, 54]⟩) (⟨#[97, 98]⟩)])) v5_35 := sf_end e5 hk [] in_nil
    replace e5 := ev; clear ev
    obtain ⟨v5_35a, v5_35c, ev, D2⟩ := rdHss_out D_v5_35
    subst ev; replace D_v5_35 := D2; clear D2
    replace kw := kw.x hk
    clear hR hk hg hP
    refine tail_nil (hK34 _ _ ?_)
    refine wp_seq_k fun K36 hK36 => ?_
    refine rg mixed y35 zz35 ?_
    refine .i (v := (.agg #[(.int .u8 (4)), (.int .i64 (0)), (.string (⟨#[]⟩)), (.slice none 0 0), (.slice none 0 0)])) (sp_build (vs := [(0, (.int .u8 (4)))]) Try.underlying33 z33 (pl33 Try.underlying33) ⟨rfl, Has.cst, trivial⟩ rfl) ?_
    refine .alloc z33 ?_
    refine .done ⟨by kernel_rfl, fun a37 g W37 y37 zz37 hk hg hV hR hP => ?_⟩
    obtain ⟨⟨b6_37, e6, hb6, own_b6_37⟩, e102, -⟩ := hV
    have lo_b6_37 : w.heap.size ≤ b6_37 := Nat.le_trans kw.size (hg.lo _ _ hb6)
    have own_b6_37 : Own W37 b6_37 [(.int .u8 (0)), (.int .i64 (0)), (.string (⟨#[]⟩)), (.slice none 0 0), (.slice none 0 0)] 33 := own_b6_37
    replace e5 := (hR 5 rfl).trans e5
    replace D_v5_35 := sf_more D_v5_35 hk [b6_37] (in_cons (hg.lo _ _ hb6) in_nil)
    replace e102 := e102.q
    replace kw := kw.x hk
    clear hR hk hg hP hb6
    refine tail_store (b := b6_37) (o := 0) (v := (.agg #[(.int .u8 (4)), (.int .i64 (0)), (.string (⟨#[]⟩)), (.slice none 0 0), (.slice none 0 0)])) e6 e102 sz33 rfl own_b6_37 (lbr rfl) (all_cons rfl (all_cons rfl (all_cons rfl (all_cons rfl (all_cons rfl all_nil))))) (fun W38 hs own_b6_37 => ?_)
    have own_b6_37 : Own W38 b6_37 [(.int .u8 (4)), (.int .i64 (0)), (.string (⟨#[]⟩)), (.slice none 0 0), (.slice none 0 0)] 33 := own_b6_37
    replace D_v5_35 := sf_store D_v5_35 hs (by simp)
    replace kw := keeps_store kw hs lo_b6_37
    clear hs
    refine tail_nil (hK36 _ _ ?_)
    refine wp_seq_k fun K39 hK39 => ?_
    refine wp_seq_k fun K40 hK40 => ?_
    refine rg mixed y37 zz37 ?_
    refine .i (sp_assign Has.cst) ?_
    refine .done ⟨by kernel_rfl, fun a41 g W41 y41 zz41 hk hg hV hR hP => ?_⟩
    obtain ⟨e7, -⟩ := hV
    replace e5 := (hR 5 rfl).trans e5
    replace e6 := (hR 6 rfl).trans e6
    replace D_v5_35 := D_v5_35.ext hk
    have e7 : sl a41 7 = (.int .i64 (1)) := e7
    replace own_b6_37 := own_b6_37.ext hk
    replace kw := kw.x hk
    clear hR hk hg hP
    refine tail_nil (hK40 _ _ ?_)
    refine wp_block ?_
    refine wp_loopAt (loopAt ?_)
    refine wp_seq_k fun K42 hK42 => ?_
    refine wp_seq_k fun K43 hK43 => ?_
    refine rg mixed y41 zz41 ?_
    refine .i (sp_move (hbs rfl e7)) ?_
    refine .i (sp_lss (hlc rfl) Has.cst) ?_
    refine .done ⟨by kernel_rfl, fun a44 g W44 y44 zz44 hk hg hV hR hP => ?_⟩
    obtain ⟨e104, -, -⟩ := hV
    replace e5 := (hR 5 rfl).trans e5
    replace e6 := (hR 6 rfl).trans e6
    replace e7 := (hR 7 rfl).trans e7
    replace D_v5_35 := D_v5_35.ext hk
    replace e104 := e104.q
    replace own_b6_37 := own_b6_37.ext hk
    replace kw := kw.x hk
    clear hR hk hg hP
    refine tail_nil (hK43 _ _ ?_)
    refine wp_cond_true (e104.trans (congrArg Value.bool (by decide))) ?_
    refine wp_skip (hK42 _ _ ?_)
    refine wp_seq_k fun K45 hK45 => ?_
    refine wp_block ?_
    refine rg mixed y44 zz44 ?_
    refine .i (v := (.agg #[(.int .u8 (4)), (.int .i64 (0)), (.string (⟨#[]⟩)), (.slice none 0 0), (.slice none 0 0)])) (loA (hbs rfl e6) own_b6_37 trivial agg33 sz33 rfl rfl) ?_
    refine .da (X := SF w [b6_37]) (e := valsD ([deepN 0])) (sp_bsl (ds := [V.d (deepN 0)]) Try.underlying31 sz33 z33 (lbr rfl) (lbr rfl) ⟨rfl, ((hlc rfl).dat (rdV_mk (lbr rfl) (rd_nil _) (rd_nil _) : Rd W44 (SF w [b6_37]) (V.d (deepN 0)) _) sub_all), trivial⟩ rfl (by intro e he; simp at he; rcases he with rfl <;> exact width_V _) (fr_sf kw (in_cons own_b6_37.lt in_nil))) ?_
    refine .da (X := SF w [b6_37]) (e := V.d (deepN 1)) (sp_buildD (zd := [.int .u8 0, .int .i64 0, .str ⟨#[]⟩, strsD [], valsD []]) (es := [(0, D.int .u8 (4)), (4, valsD ([deepN 0]))]) Try.underlying33 z33 (pl33 Try.underlying33) ⟨rfl, Has.cst.int, ⟨rfl, (hlc rfl), trivial⟩⟩ zV rfl (by simp [fits, width, strsD, valsD]) (by rw [V.d_eq]; rfl)) ?_
    refine .done ⟨by kernel_rfl, fun a46 g W46 y46 zz46 hk hg hV hR hP => ?_⟩
    obtain ⟨e109, -, -, -⟩ := hV
    replace e5 := (hR 5 rfl).trans e5
    replace e6 := (hR 6 rfl).trans e6
    replace e7 := (hR 7 rfl).trans e7
    replace D_v5_35 := D_v5_35.ext hk
    obtain ⟨v109_46, ev⟩ : ∃ v, sl a46 109 = v := ⟨_, rfl⟩
    rw [ev] at e109
    have D_v109_46 : Rd W46 (SF w [b6_37]) (V.d (deepN 1)) v109_46 := sf_end e109 hk [] in_nil
    replace e109 := ev; clear ev
    obtain ⟨cn109_46a, cn109_46c, ci109_46a, ci109_46c, ev, ht_v109_46, D_cn109_46, D_ci109_46⟩ := rdV_out D_v109_46
    subst ev; clear D_v109_46
    replace own_b6_37 := own_b6_37.ext hk
    replace kw := kw.x hk
    clear hR hk hg hP
    refine tail_store (b := b6_37) (o := 0) (v := (.agg #[(.int .u8 ((deepN 1).k)), (.int .i64 ((deepN 1).n)), (.string ((deepN 1).t)), (.slice cn109_46a (((deepN 1).ns).length) cn109_46c), (.slice ci109_46a (((deepN 1).xs).length) ci109_46c)])) e6 e109 sz33 rfl own_b6_37 (lbr rfl) (all_cons rfl (all_cons rfl (all_cons rfl (all_cons rfl (all_cons rfl all_nil))))) (fun W47 hs own_b6_37 => ?_)
    have own_b6_37 : Own W47 b6_37 [(.int .u8 ((deepN 1).k)), (.int .i64 ((deepN 1).n)), (.string ((deepN 1).t)), (.slice cn109_46a (((deepN 1).ns).length) cn109_46c), (.slice ci109_46a (((deepN 1).xs).length) ci109_46c)] 33 := own_b6_37
    replace D_v5_35 := sf_store D_v5_35 hs (by simp)
    replace D_cn109_46 := sf_store D_cn109_46 hs (by simp)
    replace D_ci109_46 := sf_store D_ci109_46 hs (by simp)
    replace kw := keeps_store kw hs lo_b6_37
    clear hs
    refine tail_nil (hK45 _ _ ?_)
    refine rg mixed y46 zz46 ?_
    refine .i (sp_move (hbs rfl e7)) ?_
    refine .i (sp_add (hlc rfl) Has.cst (i64_in (by omega))) ?_
    refine .i (sp_assign (hlc rfl)) ?_
    refine .done ⟨by kernel_rfl, fun a48 g W48 y48 zz48 hk hg hV hR hP => ?_⟩
    obtain ⟨e7, -, -, -⟩ := hV
    replace e5 := (hR 5 rfl).trans e5
    replace e6 := (hR 6 rfl).trans e6
    replace D_v5_35 := D_v5_35.ext hk
    replace D_cn109_46 := D_cn109_46.ext hk
    replace D_ci109_46 := D_ci109_46.ext hk
    have e7 : sl a48 7 = (.int .i64 (2)) := Eq.trans e7 (congrArg (Value.int .i64) (by decide))
    replace own_b6_37 := own_b6_37.ext hk
    replace kw := kw.x hk
    clear hR hk hg hP
    refine tail_nil (loopAt ?_)
    refine wp_seq_k fun K49 hK49 => ?_
    refine wp_seq_k fun K50 hK50 => ?_
    refine rg mixed y48 zz48 ?_
    refine .i (sp_move (hbs rfl e7)) ?_
    refine .i (sp_lss (hlc rfl) Has.cst) ?_
    refine .done ⟨by kernel_rfl, fun a51 g W51 y51 zz51 hk hg hV hR hP => ?_⟩
    obtain ⟨e104, -, -⟩ := hV
    replace e5 := (hR 5 rfl).trans e5
    replace e6 := (hR 6 rfl).trans e6
    replace e7 := (hR 7 rfl).trans e7
    replace D_v5_35 := D_v5_35.ext hk
    replace D_cn109_46 := D_cn109_46.ext hk
    replace D_ci109_46 := D_ci109_46.ext hk
    replace e104 := e104.q
    replace own_b6_37 := own_b6_37.ext hk
    replace kw := kw.x hk
    clear hR hk hg hP
    refine tail_nil (hK50 _ _ ?_)
    refine wp_cond_true (e104.trans (congrArg Value.bool (by decide))) ?_
    refine wp_skip (hK49 _ _ ?_)
    refine wp_seq_k fun K52 hK52 => ?_
    refine wp_block ?_
    refine rg mixed y51 zz51 ?_
    refine .i (v := (.agg #[(.int .u8 ((deepN 1).k)), (.int .i64 ((deepN 1).n)), (.string ((deepN 1).t)), (.slice cn109_46a (((deepN 1).ns).length) cn109_46c), (.slice ci109_46a (((deepN 1).xs).length) ci109_46c)])) (loA (hbs rfl e6) own_b6_37 trivial agg33 sz33 rfl rfl) ?_
    refine .da (X := SF w [b6_37]) (e := valsD ([(deepN 1)])) (sp_bsl (ds := [V.d ((deepN 1))]) Try.underlying31 sz33 z33 (lbr rfl) (lbr rfl) ⟨rfl, ((hlc rfl).dat (rdV_in (x := (deepN 1)) ht_v109_46 D_cn109_46 D_ci109_46 : Rd W51 (SF w [b6_37]) (V.d ((deepN 1))) _) sub_all), trivial⟩ rfl (by intro e he; simp at he; rcases he with rfl <;> exact width_V _) (fr_sf kw (in_cons own_b6_37.lt in_nil))) ?_
    refine .da (X := SF w [b6_37]) (e := V.d (deepN 2)) (sp_buildD (zd := [.int .u8 0, .int .i64 0, .str ⟨#[]⟩, strsD [], valsD []]) (es := [(0, D.int .u8 (4)), (4, valsD ([(deepN 1)]))]) Try.underlying33 z33 (pl33 Try.underlying33) ⟨rfl, Has.cst.int, ⟨rfl, (hlc rfl), trivial⟩⟩ zV rfl (by simp [fits, width, strsD, valsD]) (by rw [V.d_eq]; rfl)) ?_
    refine .done ⟨by kernel_rfl, fun a53 g W53 y53 zz53 hk hg hV hR hP => ?_⟩
    obtain ⟨e109, -, -, -⟩ := hV
    replace e5 := (hR 5 rfl).trans e5
    replace e6 := (hR 6 rfl).trans e6
    replace e7 := (hR 7 rfl).trans e7
    replace D_v5_35 := D_v5_35.ext hk
    replace D_cn109_46 := D_cn109_46.ext hk
    replace D_ci109_46 := D_ci109_46.ext hk
    obtain ⟨v109_53, ev⟩ : ∃ v, sl a53 109 = v := ⟨_, rfl⟩
    rw [ev] at e109
    have D_v109_53 : Rd W53 (SF w [b6_37]) (V.d (deepN 2)) v109_53 := sf_end e109 hk [] in_nil
    replace e109 := ev; clear ev
    obtain ⟨cn109_53a, cn109_53c, ci109_53a, ci109_53c, ev, ht_v109_53, D_cn109_53, D_ci109_53⟩ := rdV_out D_v109_53
    subst ev; clear D_v109_53
    replace own_b6_37 := own_b6_37.ext hk
    replace kw := kw.x hk
    clear hR hk hg hP
    refine tail_store (b := b6_37) (o := 0) (v := (.agg #[(.int .u8 ((deepN 2).k)), (.int .i64 ((deepN 2).n)), (.string ((deepN 2).t)), (.slice cn109_53a (((deepN 2).ns).length) cn109_53c), (.slice ci109_53a (((deepN 2).xs).length) ci109_53c)])) e6 e109 sz33 rfl own_b6_37 (lbr rfl) (all_cons rfl (all_cons rfl (all_cons rfl (all_cons rfl (all_cons rfl all_nil))))) (fun W54 hs own_b6_37 => ?_)
    have own_b6_37 : Own W54 b6_37 [(.int .u8 ((deepN 2).k)), (.int .i64 ((deepN 2).n)), (.string ((deepN 2).t)), (.slice cn109_53a (((deepN 2).ns).length) cn109_53c), (.slice ci109_53a (((deepN 2).xs).length) ci109_53c)] 33 := own_b6_37
    replace D_v5_35 := sf_store D_v5_35 hs (by simp)
    replace D_cn109_46 := sf_store D_cn109_46 hs (by simp)
    replace D_ci109_46 := sf_store D_ci109_46 hs (by simp)
    replace D_cn109_53 := sf_store D_cn109_53 hs (by simp)
    replace D_ci109_53 := sf_store D_ci109_53 hs (by simp)
    replace kw := keeps_store kw hs lo_b6_37
    clear hs
    refine tail_nil (hK52 _ _ ?_)
    refine rg mixed y53 zz53 ?_
    refine .i (sp_move (hbs rfl e7)) ?_
    refine .i (sp_add (hlc rfl) Has.cst (i64_in (by omega))) ?_
    refine .i (sp_assign (hlc rfl)) ?_
    refine .done ⟨by kernel_rfl, fun a55 g W55 y55 zz55 hk hg hV hR hP => ?_⟩
    obtain ⟨e7, -, -, -⟩ := hV
    replace e5 := (hR 5 rfl).trans e5
    replace e6 := (hR 6 rfl).trans e6
    replace D_v5_35 := D_v5_35.ext hk
    replace D_cn109_53 := D_cn109_53.ext hk
    replace D_ci109_53 := D_ci109_53.ext hk
    have e7 : sl a55 7 = (.int .i64 (3)) := Eq.trans e7 (congrArg (Value.int .i64) (by decide))
    replace own_b6_37 := own_b6_37.ext hk
    replace kw := kw.x hk
    clear hR hk hg hP
    refine tail_nil (loopAt ?_)
    refine wp_seq_k fun K56 hK56 => ?_
    refine wp_seq_k fun K57 hK57 => ?_
    refine rg mixed y55 zz55 ?_
    refine .i (sp_move (hbs rfl e7)) ?_
    refine .i (sp_lss (hlc rfl) Has.cst) ?_
    refine .done ⟨by kernel_rfl, fun a58 g W58 y58 zz58 hk hg hV hR hP => ?_⟩
    obtain ⟨e104, -, -⟩ := hV
    replace e5 := (hR 5 rfl).trans e5
    replace e6 := (hR 6 rfl).trans e6
    replace e7 := (hR 7 rfl).trans e7
    replace D_v5_35 := D_v5_35.ext hk
    replace D_cn109_53 := D_cn109_53.ext hk
    replace D_ci109_53 := D_ci109_53.ext hk
    replace e104 := e104.q
    replace own_b6_37 := own_b6_37.ext hk
    replace kw := kw.x hk
    clear hR hk hg hP
    refine tail_nil (hK57 _ _ ?_)
    refine wp_cond_true (e104.trans (congrArg Value.bool (by decide))) ?_
    refine wp_skip (hK56 _ _ ?_)
    refine wp_seq_k fun K59 hK59 => ?_
    refine wp_block ?_
    refine rg mixed y58 zz58 ?_
    refine .i (v := (.agg #[(.int .u8 ((deepN 2).k)), (.int .i64 ((deepN 2).n)), (.string ((deepN 2).t)), (.slice cn109_53a (((deepN 2).ns).length) cn109_53c), (.slice ci109_53a (((deepN 2).xs).length) ci109_53c)])) (loA (hbs rfl e6) own_b6_37 trivial agg33 sz33 rfl rfl) ?_
    refine .da (X := SF w [b6_37]) (e := valsD ([(deepN 2)])) (sp_bsl (ds := [V.d ((deepN 2))]) Try.underlying31 sz33 z33 (lbr rfl) (lbr rfl) ⟨rfl, ((hlc rfl).dat (rdV_in (x := (deepN 2)) ht_v109_53 D_cn109_53 D_ci109_53 : Rd W58 (SF w [b6_37]) (V.d ((deepN 2))) _) sub_all), trivial⟩ rfl (by intro e he; simp at he; rcases he with rfl <;> exact width_V _) (fr_sf kw (in_cons own_b6_37.lt in_nil))) ?_
    refine .da (X := SF w [b6_37]) (e := V.d (deepN 3)) (sp_buildD (zd := [.int .u8 0, .int .i64 0, .str ⟨#[]⟩, strsD [], valsD []]) (es := [(0, D.int .u8 (4)), (4, valsD ([(deepN 2)]))]) Try.underlying33 z33 (pl33 Try.underlying33) ⟨rfl, Has.cst.int, ⟨rfl, (hlc rfl), trivial⟩⟩ zV rfl (by simp [fits, width, strsD, valsD]) (by rw [V.d_eq]; rfl)) ?_
    refine .done ⟨by kernel_rfl, fun a60 g W60 y60 zz60 hk hg hV hR hP => ?_⟩
    obtain ⟨e109, -, -, -⟩ := hV
    replace e5 := (hR 5 rfl).trans e5
    replace e6 := (hR 6 rfl).trans e6
    replace e7 := (hR 7 rfl).trans e7
    replace D_v5_35 := D_v5_35.ext hk
    replace D_cn109_53 := D_cn109_53.ext hk
    replace D_ci109_53 := D_ci109_53.ext hk
    obtain ⟨v109_60, ev⟩ : ∃ v, sl a60 109 = v := ⟨_, rfl⟩
    rw [ev] at e109
    have D_v109_60 : Rd W60 (SF w [b6_37]) (V.d (deepN 3)) v109_60 := sf_end e109 hk [] in_nil
    replace e109 := ev; clear ev
    obtain ⟨cn109_60a, cn109_60c, ci109_60a, ci109_60c, ev, ht_v109_60, D_cn109_60, D_ci109_60⟩ := rdV_out D_v109_60
    subst ev; clear D_v109_60
    replace own_b6_37 := own_b6_37.ext hk
    replace kw := kw.x hk
    clear hR hk hg hP
    refine tail_store (b := b6_37) (o := 0) (v := (.agg #[(.int .u8 ((deepN 3).k)), (.int .i64 ((deepN 3).n)), (.string ((deepN 3).t)), (.slice cn109_60a (((deepN 3).ns).length) cn109_60c), (.slice ci109_60a (((deepN 3).xs).length) ci109_60c)])) e6 e109 sz33 rfl own_b6_37 (lbr rfl) (all_cons rfl (all_cons rfl (all_cons rfl (all_cons rfl (all_cons rfl all_nil))))) (fun W61 hs own_b6_37 => ?_)
    have own_b6_37 : Own W61 b6_37 [(.int .u8 ((deepN 3).k)), (.int .i64 ((deepN 3).n)), (.string ((deepN 3).t)), (.slice cn109_60a (((deepN 3).ns).length) cn109_60c), (.slice ci109_60a (((deepN 3).xs).length) ci109_60c)] 33 := own_b6_37
    replace D_v5_35 := sf_store D_v5_35 hs (by simp)
    replace D_cn109_53 := sf_store D_cn109_53 hs (by simp)
    replace D_ci109_53 := sf_store D_ci109_53 hs (by simp)
    replace D_cn109_60 := sf_store D_cn109_60 hs (by simp)
    replace D_ci109_60 := sf_store D_ci109_60 hs (by simp)
    replace kw := keeps_store kw hs lo_b6_37
    clear hs
    refine tail_nil (hK59 _ _ ?_)
    refine rg mixed y60 zz60 ?_
    refine .i (sp_move (hbs rfl e7)) ?_
    refine .i (sp_add (hlc rfl) Has.cst (i64_in (by omega))) ?_
    refine .i (sp_assign (hlc rfl)) ?_
    refine .done ⟨by kernel_rfl, fun a62 g W62 y62 zz62 hk hg hV hR hP => ?_⟩
    obtain ⟨e7, -, -, -⟩ := hV
    replace e5 := (hR 5 rfl).trans e5
    replace e6 := (hR 6 rfl).trans e6
    replace D_v5_35 := D_v5_35.ext hk
    replace D_cn109_60 := D_cn109_60.ext hk
    replace D_ci109_60 := D_ci109_60.ext hk
    have e7 : sl a62 7 = (.int .i64 (4)) := Eq.trans e7 (congrArg (Value.int .i64) (by decide))
    replace own_b6_37 := own_b6_37.ext hk
    replace kw := kw.x hk
    clear hR hk hg hP
    refine tail_nil (loopAt ?_)
    refine wp_seq_k fun K63 hK63 => ?_
    refine wp_seq_k fun K64 hK64 => ?_
    refine rg mixed y62 zz62 ?_
    refine .i (sp_move (hbs rfl e7)) ?_
    refine .i (sp_lss (hlc rfl) Has.cst) ?_
    refine .done ⟨by kernel_rfl, fun a65 g W65 y65 zz65 hk hg hV hR hP => ?_⟩
    obtain ⟨e104, -, -⟩ := hV
    replace e5 := (hR 5 rfl).trans e5
    replace e6 := (hR 6 rfl).trans e6
    replace e7 := (hR 7 rfl).trans e7
    replace D_v5_35 := D_v5_35.ext hk
    replace D_cn109_60 := D_cn109_60.ext hk
    replace D_ci109_60 := D_ci109_60.ext hk
    replace e104 := e104.q
    replace own_b6_37 := own_b6_37.ext hk
    replace kw := kw.x hk
    clear hR hk hg hP
    refine tail_nil (hK64 _ _ ?_)
    refine wp_cond_true (e104.trans (congrArg Value.bool (by decide))) ?_
    refine wp_skip (hK63 _ _ ?_)
    refine wp_seq_k fun K66 hK66 => ?_
    refine wp_block ?_
    refine rg mixed y65 zz65 ?_
    refine .i (v := (.agg #[(.int .u8 ((deepN 3).k)), (.int .i64 ((deepN 3).n)), (.string ((deepN 3).t)), (.slice cn109_60a (((deepN 3).ns).length) cn109_60c), (.slice ci109_60a (((deepN 3).xs).length) ci109_60c)])) (loA (hbs rfl e6) own_b6_37 trivial agg33 sz33 rfl rfl) ?_
    refine .da (X := SF w [b6_37]) (e := valsD ([(deepN 3)])) (sp_bsl (ds := [V.d ((deepN 3))]) Try.underlying31 sz33 z33 (lbr rfl) (lbr rfl) ⟨rfl, ((hlc rfl).dat (rdV_in (x := (deepN 3)) ht_v109_60 D_cn109_60 D_ci109_60 : Rd W65 (SF w [b6_37]) (V.d ((deepN 3))) _) sub_all), trivial⟩ rfl (by intro e he; simp at he; rcases he with rfl <;> exact width_V _) (fr_sf kw (in_cons own_b6_37.lt in_nil))) ?_
    refine .da (X := SF w [b6_37]) (e := V.d (deepN 4)) (sp_buildD (zd := [.int .u8 0, .int .i64 0, .str ⟨#[]⟩, strsD [], valsD []]) (es := [(0, D.int .u8 (4)), (4, valsD ([(deepN 3)]))]) Try.underlying33 z33 (pl33 Try.underlying33) ⟨rfl, Has.cst.int, ⟨rfl, (hlc rfl), trivial⟩⟩ zV rfl (by simp [fits, width, strsD, valsD]) (by rw [V.d_eq]; rfl)) ?_
    refine .done ⟨by kernel_rfl, fun a67 g W67 y67 zz67 hk hg hV hR hP => ?_⟩
    obtain ⟨e109, -, -, -⟩ := hV
    replace e5 := (hR 5 rfl).trans e5
    replace e6 := (hR 6 rfl).trans e6
    replace e7 := (hR 7 rfl).trans e7
    replace D_v5_35 := D_v5_35.ext hk
    replace D_cn109_60 := D_cn109_60.ext hk
    replace D_ci109_60 := D_ci109_60.ext hk
    obtain ⟨v109_67, ev⟩ : ∃ v, sl a67 109 = v := ⟨_, rfl⟩
    rw [ev] at e109
    have D_v109_67 : Rd W67 (SF w [b6_37]) (V.d (deepN 4)) v109_67 := sf_end e109 hk [] in_nil
    replace e109 := ev; clear ev
    obtain ⟨cn109_67a, cn109_67c, ci109_67a, ci109_67c, ev, ht_v109_67, D_cn109_67, D_ci109_67⟩ := rdV_out D_v109_67
    subst ev; clear D_v109_67
    replace own_b6_37 := own_b6_37.ext hk
    replace kw := kw.x hk
    clear hR hk hg hP
    refine tail_store (b := b6_37) (o := 0) (v := (.agg #[(.int .u8 ((deepN 4).k)), (.int .i64 ((deepN 4).n)), (.string ((deepN 4).t)), (.slice cn109_67a (((deepN 4).ns).length) cn109_67c), (.slice ci109_67a (((deepN 4).xs).length) ci109_67c)])) e6 e109 sz33 rfl own_b6_37 (lbr rfl) (all_cons rfl (all_cons rfl (all_cons rfl (all_cons rfl (all_cons rfl all_nil))))) (fun W68 hs own_b6_37 => ?_)
    have own_b6_37 : Own W68 b6_37 [(.int .u8 ((deepN 4).k)), (.int .i64 ((deepN 4).n)), (.string ((deepN 4).t)), (.slice cn109_67a (((deepN 4).ns).length) cn109_67c), (.slice ci109_67a (((deepN 4).xs).length) ci109_67c)] 33 := own_b6_37
    replace D_v5_35 := sf_store D_v5_35 hs (by simp)
    replace D_cn109_60 := sf_store D_cn109_60 hs (by simp)
    replace D_ci109_60 := sf_store D_ci109_60 hs (by simp)
    replace D_cn109_67 := sf_store D_cn109_67 hs (by simp)
    replace D_ci109_67 := sf_store D_ci109_67 hs (by simp)
    replace kw := keeps_store kw hs lo_b6_37
    clear hs
    refine tail_nil (hK66 _ _ ?_)
    refine rg mixed y67 zz67 ?_
    refine .i (sp_move (hbs rfl e7)) ?_
    refine .i (sp_add (hlc rfl) Has.cst (i64_in (by omega))) ?_
    refine .i (sp_assign (hlc rfl)) ?_
    refine .done ⟨by kernel_rfl, fun a69 g W69 y69 zz69 hk hg hV hR hP => ?_⟩
    obtain ⟨e7, -, -, -⟩ := hV
    replace e5 := (hR 5 rfl).trans e5
    replace e6 := (hR 6 rfl).trans e6
    replace D_v5_35 := D_v5_35.ext hk
    replace D_cn109_67 := D_cn109_67.ext hk
    replace D_ci109_67 := D_ci109_67.ext hk
    have e7 : sl a69 7 = (.int .i64 (5)) := Eq.trans e7 (congrArg (Value.int .i64) (by decide))
    replace own_b6_37 := own_b6_37.ext hk
    replace kw := kw.x hk
    clear hR hk hg hP
    refine tail_nil (loopAt ?_)
    refine wp_seq_k fun K70 hK70 => ?_
    refine wp_seq_k fun K71 hK71 => ?_
    refine rg mixed y69 zz69 ?_
    refine .i (sp_move (hbs rfl e7)) ?_
    refine .i (sp_lss (hlc rfl) Has.cst) ?_
    refine .done ⟨by kernel_rfl, fun a72 g W72 y72 zz72 hk hg hV hR hP => ?_⟩
    obtain ⟨e104, -, -⟩ := hV
    replace e5 := (hR 5 rfl).trans e5
    replace e6 := (hR 6 rfl).trans e6
    replace e7 := (hR 7 rfl).trans e7
    replace D_v5_35 := D_v5_35.ext hk
    replace D_cn109_67 := D_cn109_67.ext hk
    replace D_ci109_67 := D_ci109_67.ext hk
    replace e104 := e104.q
    replace own_b6_37 := own_b6_37.ext hk
    replace kw := kw.x hk
    clear hR hk hg hP
    refine tail_nil (hK71 _ _ ?_)
    refine wp_cond_true (e104.trans (congrArg Value.bool (by decide))) ?_
    refine wp_skip (hK70 _ _ ?_)
    refine wp_seq_k fun K73 hK73 => ?_
    refine wp_block ?_
    refine rg mixed y72 zz72 ?_
    refine .i (v := (.agg #[(.int .u8 ((deepN 4).k)), (.int .i64 ((deepN 4).n)), (.string ((deepN 4).t)), (.slice cn109_67a (((deepN 4).ns).length) cn109_67c), (.slice ci109_67a (((deepN 4).xs).length) ci109_67c)])) (loA (hbs rfl e6) own_b6_37 trivial agg33 sz33 rfl rfl) ?_
    refine .da (X := SF w [b6_37]) (e := valsD ([(deepN 4)])) (sp_bsl (ds := [V.d ((deepN 4))]) Try.underlying31 sz33 z33 (lbr rfl) (lbr rfl) ⟨rfl, ((hlc rfl).dat (rdV_in (x := (deepN 4)) ht_v109_67 D_cn109_67 D_ci109_67 : Rd W72 (SF w [b6_37]) (V.d ((deepN 4))) _) sub_all), trivial⟩ rfl (by intro e he; simp at he; rcases he with rfl <;> exact width_V _) (fr_sf kw (in_cons own_b6_37.lt in_nil))) ?_
    refine .da (X := SF w [b6_37]) (e := V.d (deepN 5)) (sp_buildD (zd := [.int .u8 0, .int .i64 0, .str ⟨#[]⟩, strsD [], valsD []]) (es := [(0, D.int .u8 (4)), (4, valsD ([(deepN 4)]))]) Try.underlying33 z33 (pl33 Try.underlying33) ⟨rfl, Has.cst.int, ⟨rfl, (hlc rfl), trivial⟩⟩ zV rfl (by simp [fits, width, strsD, valsD]) (by rw [V.d_eq]; rfl)) ?_
    refine .done ⟨by kernel_rfl, fun a74 g W74 y74 zz74 hk hg hV hR hP => ?_⟩
    obtain ⟨e109, -, -, -⟩ := hV
    replace e5 := (hR 5 rfl).trans e5
    replace e6 := (hR 6 rfl).trans e6
    replace e7 := (hR 7 rfl).trans e7
    replace D_v5_35 := D_v5_35.ext hk
    replace D_cn109_67 := D_cn109_67.ext hk
    replace D_ci109_67 := D_ci109_67.ext hk
    obtain ⟨v109_74, ev⟩ : ∃ v, sl a74 109 = v := ⟨_, rfl⟩
    rw [ev] at e109
    have D_v109_74 : Rd W74 (SF w [b6_37]) (V.d (deepN 5)) v109_74 := sf_end e109 hk [] in_nil
    replace e109 := ev; clear ev
    obtain ⟨cn109_74a, cn109_74c, ci109_74a, ci109_74c, ev, ht_v109_74, D_cn109_74, D_ci109_74⟩ := rdV_out D_v109_74
    subst ev; clear D_v109_74
    replace own_b6_37 := own_b6_37.ext hk
    replace kw := kw.x hk
    clear hR hk hg hP
    refine tail_store (b := b6_37) (o := 0) (v := (.agg #[(.int .u8 ((deepN 5).k)), (.int .i64 ((deepN 5).n)), (.string ((deepN 5).t)), (.slice cn109_74a (((deepN 5).ns).length) cn109_74c), (.slice ci109_74a (((deepN 5).xs).length) ci109_74c)])) e6 e109 sz33 rfl own_b6_37 (lbr rfl) (all_cons rfl (all_cons rfl (all_cons rfl (all_cons rfl (all_cons rfl all_nil))))) (fun W75 hs own_b6_37 => ?_)
    have own_b6_37 : Own W75 b6_37 [(.int .u8 ((deepN 5).k)), (.int .i64 ((deepN 5).n)), (.string ((deepN 5).t)), (.slice cn109_74a (((deepN 5).ns).length) cn109_74c), (.slice ci109_74a (((deepN 5).xs).length) ci109_74c)] 33 := own_b6_37
    replace D_v5_35 := sf_store D_v5_35 hs (by simp)
    replace D_cn109_67 := sf_store D_cn109_67 hs (by simp)
    replace D_ci109_67 := sf_store D_ci109_67 hs (by simp)
    replace D_cn109_74 := sf_store D_cn109_74 hs (by simp)
    replace D_ci109_74 := sf_store D_ci109_74 hs (by simp)
    replace kw := keeps_store kw hs lo_b6_37
    clear hs
    refine tail_nil (hK73 _ _ ?_)
    refine rg mixed y74 zz74 ?_
    refine .i (sp_move (hbs rfl e7)) ?_
    refine .i (sp_add (hlc rfl) Has.cst (i64_in (by omega))) ?_
    refine .i (sp_assign (hlc rfl)) ?_
    refine .done ⟨by kernel_rfl, fun a76 g W76 y76 zz76 hk hg hV hR hP => ?_⟩
    obtain ⟨e7, -, -, -⟩ := hV
    replace e5 := (hR 5 rfl).trans e5
    replace e6 := (hR 6 rfl).trans e6
    replace D_v5_35 := D_v5_35.ext hk
    replace D_cn109_74 := D_cn109_74.ext hk
    replace D_ci109_74 := D_ci109_74.ext hk
    have e7 : sl a76 7 = (.int .i64 (6)) := Eq.trans e7 (congrArg (Value.int .i64) (by decide))
    replace own_b6_37 := own_b6_37.ext hk
    replace kw := kw.x hk
    clear hR hk hg hP
    refine tail_nil (loopAt ?_)
    refine wp_seq_k fun K77 hK77 => ?_
    refine wp_seq_k fun K78 hK78 => ?_
    refine rg mixed y76 zz76 ?_
    refine .i (sp_move (hbs rfl e7)) ?_
    refine .i (sp_lss (hlc rfl) Has.cst) ?_
    refine .done ⟨by kernel_rfl, fun a79 g W79 y79 zz79 hk hg hV hR hP => ?_⟩
    obtain ⟨e104, -, -⟩ := hV
    replace e5 := (hR 5 rfl).trans e5
    replace e6 := (hR 6 rfl).trans e6
    replace e7 := (hR 7 rfl).trans e7
    replace D_v5_35 := D_v5_35.ext hk
    replace D_cn109_74 := D_cn109_74.ext hk
    replace D_ci109_74 := D_ci109_74.ext hk
    replace e104 := e104.q
    replace own_b6_37 := own_b6_37.ext hk
    replace kw := kw.x hk
    clear hR hk hg hP
    refine tail_nil (hK78 _ _ ?_)
    refine wp_cond_true (e104.trans (congrArg Value.bool (by decide))) ?_
    refine wp_skip (hK77 _ _ ?_)
    refine wp_seq_k fun K80 hK80 => ?_
    refine wp_block ?_
    refine rg mixed y79 zz79 ?_
    refine .i (v := (.agg #[(.int .u8 ((deepN 5).k)), (.int .i64 ((deepN 5).n)), (.string ((deepN 5).t)), (.slice cn109_74a (((deepN 5).ns).length) cn109_74c), (.slice ci109_74a (((deepN 5).xs).length) ci109_74c)])) (loA (hbs rfl e6) own_b6_37 trivial agg33 sz33 rfl rfl) ?_
    refine .da (X := SF w [b6_37]) (e := valsD ([(deepN 5)])) (sp_bsl (ds := [V.d ((deepN 5))]) Try.underlying31 sz33 z33 (lbr rfl) (lbr rfl) ⟨rfl, ((hlc rfl).dat (rdV_in (x := (deepN 5)) ht_v109_74 D_cn109_74 D_ci109_74 : Rd W79 (SF w [b6_37]) (V.d ((deepN 5))) _) sub_all), trivial⟩ rfl (by intro e he; simp at he; rcases he with rfl <;> exact width_V _) (fr_sf kw (in_cons own_b6_37.lt in_nil))) ?_
    refine .da (X := SF w [b6_37]) (e := V.d (deepN 6)) (sp_buildD (zd := [.int .u8 0, .int .i64 0, .str ⟨#[]⟩, strsD [], valsD []]) (es := [(0, D.int .u8 (4)), (4, valsD ([(deepN 5)]))]) Try.underlying33 z33 (pl33 Try.underlying33) ⟨rfl, Has.cst.int, ⟨rfl, (hlc rfl), trivial⟩⟩ zV rfl (by simp [fits, width, strsD, valsD]) (by rw [V.d_eq]; rfl)) ?_
    refine .done ⟨by kernel_rfl, fun a81 g W81 y81 zz81 hk hg hV hR hP => ?_⟩
    obtain ⟨e109, -, -, -⟩ := hV
    replace e5 := (hR 5 rfl).trans e5
    replace e6 := (hR 6 rfl).trans e6
    replace e7 := (hR 7 rfl).trans e7
    replace D_v5_35 := D_v5_35.ext hk
    replace D_cn109_74 := D_cn109_74.ext hk
    replace D_ci109_74 := D_ci109_74.ext hk
    obtain ⟨v109_81, ev⟩ : ∃ v, sl a81 109 = v := ⟨_, rfl⟩
    rw [ev] at e109
    have D_v109_81 : Rd W81 (SF w [b6_37]) (V.d (deepN 6)) v109_81 := sf_end e109 hk [] in_nil
    replace e109 := ev; clear ev
    obtain ⟨cn109_81a, cn109_81c, ci109_81a, ci109_81c, ev, ht_v109_81, D_cn109_81, D_ci109_81⟩ := rdV_out D_v109_81
    subst ev; clear D_v109_81
    replace own_b6_37 := own_b6_37.ext hk
    replace kw := kw.x hk
    clear hR hk hg hP
    refine tail_store (b := b6_37) (o := 0) (v := (.agg #[(.int .u8 ((deepN 6).k)), (.int .i64 ((deepN 6).n)), (.string ((deepN 6).t)), (.slice cn109_81a (((deepN 6).ns).length) cn109_81c), (.slice ci109_81a (((deepN 6).xs).length) ci109_81c)])) e6 e109 sz33 rfl own_b6_37 (lbr rfl) (all_cons rfl (all_cons rfl (all_cons rfl (all_cons rfl (all_cons rfl all_nil))))) (fun W82 hs own_b6_37 => ?_)
    have own_b6_37 : Own W82 b6_37 [(.int .u8 ((deepN 6).k)), (.int .i64 ((deepN 6).n)), (.string ((deepN 6).t)), (.slice cn109_81a (((deepN 6).ns).length) cn109_81c), (.slice ci109_81a (((deepN 6).xs).length) ci109_81c)] 33 := own_b6_37
    replace D_v5_35 := sf_store D_v5_35 hs (by simp)
    replace D_cn109_74 := sf_store D_cn109_74 hs (by simp)
    replace D_ci109_74 := sf_store D_ci109_74 hs (by simp)
    replace D_cn109_81 := sf_store D_cn109_81 hs (by simp)
    replace D_ci109_81 := sf_store D_ci109_81 hs (by simp)
    replace kw := keeps_store kw hs lo_b6_37
    clear hs
    refine tail_nil (hK80 _ _ ?_)
    refine rg mixed y81 zz81 ?_
    refine .i (sp_move (hbs rfl e7)) ?_
    refine .i (sp_add (hlc rfl) Has.cst (i64_in (by omega))) ?_
    refine .i (sp_assign (hlc rfl)) ?_
    refine .done ⟨by kernel_rfl, fun a83 g W83 y83 zz83 hk hg hV hR hP => ?_⟩
    obtain ⟨e7, -, -, -⟩ := hV
    replace e5 := (hR 5 rfl).trans e5
    replace e6 := (hR 6 rfl).trans e6
    replace D_v5_35 := D_v5_35.ext hk
    replace D_cn109_81 := D_cn109_81.ext hk
    replace D_ci109_81 := D_ci109_81.ext hk
    have e7 : sl a83 7 = (.int .i64 (7)) := Eq.trans e7 (congrArg (Value.int .i64) (by decide))
    replace own_b6_37 := own_b6_37.ext hk
    replace kw := kw.x hk
    clear hR hk hg hP
    refine tail_nil (loopAt ?_)
    refine wp_seq_k fun K84 hK84 => ?_
    refine wp_seq_k fun K85 hK85 => ?_
    refine rg mixed y83 zz83 ?_
    refine .i (sp_move (hbs rfl e7)) ?_
    refine .i (sp_lss (hlc rfl) Has.cst) ?_
    refine .done ⟨by kernel_rfl, fun a86 g W86 y86 zz86 hk hg hV hR hP => ?_⟩
    obtain ⟨e104, -, -⟩ := hV
    replace e5 := (hR 5 rfl).trans e5
    replace e6 := (hR 6 rfl).trans e6
    replace e7 := (hR 7 rfl).trans e7
    replace D_v5_35 := D_v5_35.ext hk
    replace D_cn109_81 := D_cn109_81.ext hk
    replace D_ci109_81 := D_ci109_81.ext hk
    replace e104 := e104.q
    replace own_b6_37 := own_b6_37.ext hk
    replace kw := kw.x hk
    clear hR hk hg hP
    refine tail_nil (hK85 _ _ ?_)
    refine wp_cond_true (e104.trans (congrArg Value.bool (by decide))) ?_
    refine wp_skip (hK84 _ _ ?_)
    refine wp_seq_k fun K87 hK87 => ?_
    refine wp_block ?_
    refine rg mixed y86 zz86 ?_
    refine .i (v := (.agg #[(.int .u8 ((deepN 6).k)), (.int .i64 ((deepN 6).n)), (.string ((deepN 6).t)), (.slice cn109_81a (((deepN 6).ns).length) cn109_81c), (.slice ci109_81a (((deepN 6).xs).length) ci109_81c)])) (loA (hbs rfl e6) own_b6_37 trivial agg33 sz33 rfl rfl) ?_
    refine .da (X := SF w [b6_37]) (e := valsD ([(deepN 6)])) (sp_bsl (ds := [V.d ((deepN 6))]) Try.underlying31 sz33 z33 (lbr rfl) (lbr rfl) ⟨rfl, ((hlc rfl).dat (rdV_in (x := (deepN 6)) ht_v109_81 D_cn109_81 D_ci109_81 : Rd W86 (SF w [b6_37]) (V.d ((deepN 6))) _) sub_all), trivial⟩ rfl (by intro e he; simp at he; rcases he with rfl <;> exact width_V _) (fr_sf kw (in_cons own_b6_37.lt in_nil))) ?_
    refine .da (X := SF w [b6_37]) (e := V.d (deepN 7)) (sp_buildD (zd := [.int .u8 0, .int .i64 0, .str ⟨#[]⟩, strsD [], valsD []]) (es := [(0, D.int .u8 (4)), (4, valsD ([(deepN 6)]))]) Try.underlying33 z33 (pl33 Try.underlying33) ⟨rfl, Has.cst.int, ⟨rfl, (hlc rfl), trivial⟩⟩ zV rfl (by simp [fits, width, strsD, valsD]) (by rw [V.d_eq]; rfl)) ?_
    refine .done ⟨by kernel_rfl, fun a88 g W88 y88 zz88 hk hg hV hR hP => ?_⟩
    obtain ⟨e109, -, -, -⟩ := hV
    replace e5 := (hR 5 rfl).trans e5
    replace e6 := (hR 6 rfl).trans e6
    replace e7 := (hR 7 rfl).trans e7
    replace D_v5_35 := D_v5_35.ext hk
    replace D_cn109_81 := D_cn109_81.ext hk
    replace D_ci109_81 := D_ci109_81.ext hk
    obtain ⟨v109_88, ev⟩ : ∃ v, sl a88 109 = v := ⟨_, rfl⟩
    rw [ev] at e109
    have D_v109_88 : Rd W88 (SF w [b6_37]) (V.d (deepN 7)) v109_88 := sf_end e109 hk [] in_nil
    replace e109 := ev; clear ev
    obtain ⟨cn109_88a, cn109_88c, ci109_88a, ci109_88c, ev, ht_v109_88, D_cn109_88, D_ci109_88⟩ := rdV_out D_v109_88
    subst ev; clear D_v109_88
    replace own_b6_37 := own_b6_37.ext hk
    replace kw := kw.x hk
    clear hR hk hg hP
    refine tail_store (b := b6_37) (o := 0) (v := (.agg #[(.int .u8 ((deepN 7).k)), (.int .i64 ((deepN 7).n)), (.string ((deepN 7).t)), (.slice cn109_88a (((deepN 7).ns).length) cn109_88c), (.slice ci109_88a (((deepN 7).xs).length) ci109_88c)])) e6 e109 sz33 rfl own_b6_37 (lbr rfl) (all_cons rfl (all_cons rfl (all_cons rfl (all_cons rfl (all_cons rfl all_nil))))) (fun W89 hs own_b6_37 => ?_)
    have own_b6_37 : Own W89 b6_37 [(.int .u8 ((deepN 7).k)), (.int .i64 ((deepN 7).n)), (.string ((deepN 7).t)), (.slice cn109_88a (((deepN 7).ns).length) cn109_88c), (.slice ci109_88a (((deepN 7).xs).length) ci109_88c)] 33 := own_b6_37
    replace D_v5_35 := sf_store D_v5_35 hs (by simp)
    replace D_cn109_81 := sf_store D_cn109_81 hs (by simp)
    replace D_ci109_81 := sf_store D_ci109_81 hs (by simp)
    replace D_cn109_88 := sf_store D_cn109_88 hs (by simp)
    replace D_ci109_88 := sf_store D_ci109_88 hs (by simp)
    replace kw := keeps_store kw hs lo_b6_37
    clear hs
    refine tail_nil (hK87 _ _ ?_)
    refine rg mixed y88 zz88 ?_
    refine .i (sp_move (hbs rfl e7)) ?_
    refine .i (sp_add (hlc rfl) Has.cst (i64_in (by omega))) ?_
    refine .i (sp_assign (hlc rfl)) ?_
    refine .done ⟨by kernel_rfl, fun a90 g W90 y90 zz90 hk hg hV hR hP => ?_⟩
    obtain ⟨e7, -, -, -⟩ := hV
    replace e5 := (hR 5 rfl).trans e5
    replace e6 := (hR 6 rfl).trans e6
    replace D_v5_35 := D_v5_35.ext hk
    replace D_cn109_88 := D_cn109_88.ext hk
    replace D_ci109_88 := D_ci109_88.ext hk
    have e7 : sl a90 7 = (.int .i64 (8)) := Eq.trans e7 (congrArg (Value.int .i64) (by decide))
    replace own_b6_37 := own_b6_37.ext hk
    replace kw := kw.x hk
    clear hR hk hg hP
    refine tail_nil (loopAt ?_)
    refine wp_seq_k fun K91 hK91 => ?_
    refine wp_seq_k fun K92 hK92 => ?_
    refine rg mixed y90 zz90 ?_
    refine .i (sp_move (hbs rfl e7)) ?_
    refine .i (sp_lss (hlc rfl) Has.cst) ?_
    refine .done ⟨by kernel_rfl, fun a93 g W93 y93 zz93 hk hg hV hR hP => ?_⟩
    obtain ⟨e104, -, -⟩ := hV
    replace e5 := (hR 5 rfl).trans e5
    replace e6 := (hR 6 rfl).trans e6
    replace e7 := (hR 7 rfl).trans e7
    replace D_v5_35 := D_v5_35.ext hk
    replace D_cn109_88 := D_cn109_88.ext hk
    replace D_ci109_88 := D_ci109_88.ext hk
    replace e104 := e104.q
    replace own_b6_37 := own_b6_37.ext hk
    replace kw := kw.x hk
    clear hR hk hg hP
    refine tail_nil (hK92 _ _ ?_)
    refine wp_cond_true (e104.trans (congrArg Value.bool (by decide))) ?_
    refine wp_skip (hK91 _ _ ?_)
    refine wp_seq_k fun K94 hK94 => ?_
    refine wp_block ?_
    refine rg mixed y93 zz93 ?_
    refine .i (v := (.agg #[(.int .u8 ((deepN 7).k)), (.int .i64 ((deepN 7).n)), (.string ((deepN 7).t)), (.slice cn109_88a (((deepN 7).ns).length) cn109_88c), (.slice ci109_88a (((deepN 7).xs).length) ci109_88c)])) (loA (hbs rfl e6) own_b6_37 trivial agg33 sz33 rfl rfl) ?_
    refine .da (X := SF w [b6_37]) (e := valsD ([(deepN 7)])) (sp_bsl (ds := [V.d ((deepN 7))]) Try.underlying31 sz33 z33 (lbr rfl) (lbr rfl) ⟨rfl, ((hlc rfl).dat (rdV_in (x := (deepN 7)) ht_v109_88 D_cn109_88 D_ci109_88 : Rd W93 (SF w [b6_37]) (V.d ((deepN 7))) _) sub_all), trivial⟩ rfl (by intro e he; simp at he; rcases he with rfl <;> exact width_V _) (fr_sf kw (in_cons own_b6_37.lt in_nil))) ?_
    refine .da (X := SF w [b6_37]) (e := V.d (deepN 8)) (sp_buildD (zd := [.int .u8 0, .int .i64 0, .str ⟨#[]⟩, strsD [], valsD []]) (es := [(0, D.int .u8 (4)), (4, valsD ([(deepN 7)]))]) Try.underlying33 z33 (pl33 Try.underlying33) ⟨rfl, Has.cst.int, ⟨rfl, (hlc rfl), trivial⟩⟩ zV rfl (by simp [fits, width, strsD, valsD]) (by rw [V.d_eq]; rfl)) ?_
    refine .done ⟨by kernel_rfl, fun a95 g W95 y95 zz95 hk hg hV hR hP => ?_⟩
    obtain ⟨e109, -, -, -⟩ := hV
    replace e5 := (hR 5 rfl).trans e5
    replace e6 := (hR 6 rfl).trans e6
    replace e7 := (hR 7 rfl).trans e7
    replace D_v5_35 := D_v5_35.ext hk
    replace D_cn109_88 := D_cn109_88.ext hk
    replace D_ci109_88 := D_ci109_88.ext hk
    obtain ⟨v109_95, ev⟩ : ∃ v, sl a95 109 = v := ⟨_, rfl⟩
    rw [ev] at e109
    have D_v109_95 : Rd W95 (SF w [b6_37]) (V.d (deepN 8)) v109_95 := sf_end e109 hk [] in_nil
    replace e109 := ev; clear ev
    obtain ⟨cn109_95a, cn109_95c, ci109_95a, ci109_95c, ev, ht_v109_95, D_cn109_95, D_ci109_95⟩ := rdV_out D_v109_95
    subst ev; clear D_v109_95
    replace own_b6_37 := own_b6_37.ext hk
    replace kw := kw.x hk
    clear hR hk hg hP
    refine tail_store (b := b6_37) (o := 0) (v := (.agg #[(.int .u8 ((deepN 8).k)), (.int .i64 ((deepN 8).n)), (.string ((deepN 8).t)), (.slice cn109_95a (((deepN 8).ns).length) cn109_95c), (.slice ci109_95a (((deepN 8).xs).length) ci109_95c)])) e6 e109 sz33 rfl own_b6_37 (lbr rfl) (all_cons rfl (all_cons rfl (all_cons rfl (all_cons rfl (all_cons rfl all_nil))))) (fun W96 hs own_b6_37 => ?_)
    have own_b6_37 : Own W96 b6_37 [(.int .u8 ((deepN 8).k)), (.int .i64 ((deepN 8).n)), (.string ((deepN 8).t)), (.slice cn109_95a (((deepN 8).ns).length) cn109_95c), (.slice ci109_95a (((deepN 8).xs).length) ci109_95c)] 33 := own_b6_37
    replace D_v5_35 := sf_store D_v5_35 hs (by simp)
    replace D_cn109_88 := sf_store D_cn109_88 hs (by simp)
    replace D_ci109_88 := sf_store D_ci109_88 hs (by simp)
    replace D_cn109_95 := sf_store D_cn109_95 hs (by simp)
    replace D_ci109_95 := sf_store D_ci109_95 hs (by simp)
    replace kw := keeps_store kw hs lo_b6_37
    clear hs
    refine tail_nil (hK94 _ _ ?_)
    refine rg mixed y95 zz95 ?_
    refine .i (sp_move (hbs rfl e7)) ?_
    refine .i (sp_add (hlc rfl) Has.cst (i64_in (by omega))) ?_
    refine .i (sp_assign (hlc rfl)) ?_
    refine .done ⟨by kernel_rfl, fun a97 g W97 y97 zz97 hk hg hV hR hP => ?_⟩
    obtain ⟨e7, -, -, -⟩ := hV
    replace e5 := (hR 5 rfl).trans e5
    replace e6 := (hR 6 rfl).trans e6
    replace D_v5_35 := D_v5_35.ext hk
    replace D_cn109_95 := D_cn109_95.ext hk
    replace D_ci109_95 := D_ci109_95.ext hk
    have e7 : sl a97 7 = (.int .i64 (9)) := Eq.trans e7 (congrArg (Value.int .i64) (by decide))
    replace own_b6_37 := own_b6_37.ext hk
    replace kw := kw.x hk
    clear hR hk hg hP
    refine tail_nil (loopAt ?_)
    refine wp_seq_k fun K98 hK98 => ?_
    refine wp_seq_k fun K99 hK99 => ?_
    refine rg mixed y97 zz97 ?_
    refine .i (sp_move (hbs rfl e7)) ?_
    refine .i (sp_lss (hlc rfl) Has.cst) ?_
    refine .done ⟨by kernel_rfl, fun a100 g W100 y100 zz100 hk hg hV hR hP => ?_⟩
    obtain ⟨e104, -, -⟩ := hV
    replace e5 := (hR 5 rfl).trans e5
    replace e6 := (hR 6 rfl).trans e6
    replace e7 := (hR 7 rfl).trans e7
    replace D_v5_35 := D_v5_35.ext hk
    replace D_cn109_95 := D_cn109_95.ext hk
    replace D_ci109_95 := D_ci109_95.ext hk
    replace e104 := e104.q
    replace own_b6_37 := own_b6_37.ext hk
    replace kw := kw.x hk
    clear hR hk hg hP
    refine tail_nil (hK99 _ _ ?_)
    refine wp_cond_true (e104.trans (congrArg Value.bool (by decide))) ?_
    refine wp_skip (hK98 _ _ ?_)
    refine wp_seq_k fun K101 hK101 => ?_
    refine wp_block ?_
    refine rg mixed y100 zz100 ?_
    refine .i (v := (.agg #[(.int .u8 ((deepN 8).k)), (.int .i64 ((deepN 8).n)), (.string ((deepN 8).t)), (.slice cn109_95a (((deepN 8).ns).length) cn109_95c), (.slice ci109_95a (((deepN 8).xs).length) ci109_95c)])) (loA (hbs rfl e6) own_b6_37 trivial agg33 sz33 rfl rfl) ?_
    refine .da (X := SF w [b6_37]) (e := valsD ([(deepN 8)])) (sp_bsl (ds := [V.d ((deepN 8))]) Try.underlying31 sz33 z33 (lbr rfl) (lbr rfl) ⟨rfl, ((hlc rfl).dat (rdV_in (x := (deepN 8)) ht_v109_95 D_cn109_95 D_ci109_95 : Rd W100 (SF w [b6_37]) (V.d ((deepN 8))) _) sub_all), trivial⟩ rfl (by intro e he; simp at he; rcases he with rfl <;> exact width_V _) (fr_sf kw (in_cons own_b6_37.lt in_nil))) ?_
    refine .da (X := SF w [b6_37]) (e := V.d (deepN 9)) (sp_buildD (zd := [.int .u8 0, .int .i64 0, .str ⟨#[]⟩, strsD [], valsD []]) (es := [(0, D.int .u8 (4)), (4, valsD ([(deepN 8)]))]) Try.underlying33 z33 (pl33 Try.underlying33) ⟨rfl, Has.cst.int, ⟨rfl, (hlc rfl), trivial⟩⟩ zV rfl (by simp [fits, width, strsD, valsD]) (by rw [V.d_eq]; rfl)) ?_
    refine .done ⟨by kernel_rfl, fun a102 g W102 y102 zz102 hk hg hV hR hP => ?_⟩
    obtain ⟨e109, -, -, -⟩ := hV
    replace e5 := (hR 5 rfl).trans e5
    replace e6 := (hR 6 rfl).trans e6
    replace e7 := (hR 7 rfl).trans e7
    replace D_v5_35 := D_v5_35.ext hk
    replace D_cn109_95 := D_cn109_95.ext hk
    replace D_ci109_95 := D_ci109_95.ext hk
    obtain ⟨v109_102, ev⟩ : ∃ v, sl a102 109 = v := ⟨_, rfl⟩
    rw [ev] at e109
    have D_v109_102 : Rd W102 (SF w [b6_37]) (V.d (deepN 9)) v109_102 := sf_end e109 hk [] in_nil
    replace e109 := ev; clear ev
    obtain ⟨cn109_102a, cn109_102c, ci109_102a, ci109_102c, ev, ht_v109_102, D_cn109_102, D_ci109_102⟩ := rdV_out D_v109_102
    subst ev; clear D_v109_102
    replace own_b6_37 := own_b6_37.ext hk
    replace kw := kw.x hk
    clear hR hk hg hP
    refine tail_store (b := b6_37) (o := 0) (v := (.agg #[(.int .u8 ((deepN 9).k)), (.int .i64 ((deepN 9).n)), (.string ((deepN 9).t)), (.slice cn109_102a (((deepN 9).ns).length) cn109_102c), (.slice ci109_102a (((deepN 9).xs).length) ci109_102c)])) e6 e109 sz33 rfl own_b6_37 (lbr rfl) (all_cons rfl (all_cons rfl (all_cons rfl (all_cons rfl (all_cons rfl all_nil))))) (fun W103 hs own_b6_37 => ?_)
    have own_b6_37 : Own W103 b6_37 [(.int .u8 ((deepN 9).k)), (.int .i64 ((deepN 9).n)), (.string ((deepN 9).t)), (.slice cn109_102a (((deepN 9).ns).length) cn109_102c), (.slice ci109_102a (((deepN 9).xs).length) ci109_102c)] 33 := own_b6_37
    replace D_v5_35 := sf_store D_v5_35 hs (by simp)
    replace D_cn109_95 := sf_store D_cn109_95 hs (by simp)
    replace D_ci109_95 := sf_store D_ci109_95 hs (by simp)
    replace D_cn109_102 := sf_store D_cn109_102 hs (by simp)
    replace D_ci109_102 := sf_store D_ci109_102 hs (by simp)
    replace kw := keeps_store kw hs lo_b6_37
    clear hs
    refine tail_nil (hK101 _ _ ?_)
    refine rg mixed y102 zz102 ?_
    refine .i (sp_move (hbs rfl e7)) ?_
    refine .i (sp_add (hlc rfl) Has.cst (i64_in (by omega))) ?_
    refine .i (sp_assign (hlc rfl)) ?_
    refine .done ⟨by kernel_rfl, fun a104 g W104 y104 zz104 hk hg hV hR hP => ?_⟩
    obtain ⟨e7, -, -, -⟩ := hV
    replace e5 := (hR 5 rfl).trans e5
    replace e6 := (hR 6 rfl).trans e6
    replace D_v5_35 := D_v5_35.ext hk
    replace D_cn109_102 := D_cn109_102.ext hk
    replace D_ci109_102 := D_ci109_102.ext hk
    have e7 : sl a104 7 = (.int .i64 (10)) := Eq.trans e7 (congrArg (Value.int .i64) (by decide))
    replace own_b6_37 := own_b6_37.ext hk
    replace kw := kw.x hk
    clear hR hk hg hP
    refine tail_nil (loopAt ?_)
    refine wp_seq_k fun K105 hK105 => ?_
    refine wp_seq_k fun K106 hK106 => ?_
    refine rg mixed y104 zz104 ?_
    refine .i (sp_move (hbs rfl e7)) ?_
    refine .i (sp_lss (hlc rfl) Has.cst) ?_
    refine .done ⟨by kernel_rfl, fun a107 g W107 y107 zz107 hk hg hV hR hP => ?_⟩
    obtain ⟨e104, -, -⟩ := hV
    replace e5 := (hR 5 rfl).trans e5
    replace e6 := (hR 6 rfl).trans e6
    replace e7 := (hR 7 rfl).trans e7
    replace D_v5_35 := D_v5_35.ext hk
    replace D_cn109_102 := D_cn109_102.ext hk
    replace D_ci109_102 := D_ci109_102.ext hk
    replace e104 := e104.q
    replace own_b6_37 := own_b6_37.ext hk
    replace kw := kw.x hk
    clear hR hk hg hP
    refine tail_nil (hK106 _ _ ?_)
    refine wp_cond_true (e104.trans (congrArg Value.bool (by decide))) ?_
    refine wp_skip (hK105 _ _ ?_)
    refine wp_seq_k fun K108 hK108 => ?_
    refine wp_block ?_
    refine rg mixed y107 zz107 ?_
    refine .i (v := (.agg #[(.int .u8 ((deepN 9).k)), (.int .i64 ((deepN 9).n)), (.string ((deepN 9).t)), (.slice cn109_102a (((deepN 9).ns).length) cn109_102c), (.slice ci109_102a (((deepN 9).xs).length) ci109_102c)])) (loA (hbs rfl e6) own_b6_37 trivial agg33 sz33 rfl rfl) ?_
    refine .da (X := SF w [b6_37]) (e := valsD ([(deepN 9)])) (sp_bsl (ds := [V.d ((deepN 9))]) Try.underlying31 sz33 z33 (lbr rfl) (lbr rfl) ⟨rfl, ((hlc rfl).dat (rdV_in (x := (deepN 9)) ht_v109_102 D_cn109_102 D_ci109_102 : Rd W107 (SF w [b6_37]) (V.d ((deepN 9))) _) sub_all), trivial⟩ rfl (by intro e he; simp at he; rcases he with rfl <;> exact width_V _) (fr_sf kw (in_cons own_b6_37.lt in_nil))) ?_
    refine .da (X := SF w [b6_37]) (e := V.d (deepN 10)) (sp_buildD (zd := [.int .u8 0, .int .i64 0, .str ⟨#[]⟩, strsD [], valsD []]) (es := [(0, D.int .u8 (4)), (4, valsD ([(deepN 9)]))]) Try.underlying33 z33 (pl33 Try.underlying33) ⟨rfl, Has.cst.int, ⟨rfl, (hlc rfl), trivial⟩⟩ zV rfl (by simp [fits, width, strsD, valsD]) (by rw [V.d_eq]; rfl)) ?_
    refine .done ⟨by kernel_rfl, fun a109 g W109 y109 zz109 hk hg hV hR hP => ?_⟩
    obtain ⟨e109, -, -, -⟩ := hV
    replace e5 := (hR 5 rfl).trans e5
    replace e6 := (hR 6 rfl).trans e6
    replace e7 := (hR 7 rfl).trans e7
    replace D_v5_35 := D_v5_35.ext hk
    replace D_cn109_102 := D_cn109_102.ext hk
    replace D_ci109_102 := D_ci109_102.ext hk
    obtain ⟨v109_109, ev⟩ : ∃ v, sl a109 109 = v := ⟨_, rfl⟩
    rw [ev] at e109
    have D_v109_109 : Rd W109 (SF w [b6_37]) (V.d (deepN 10)) v109_109 := sf_end e109 hk [] in_nil
    replace e109 := ev; clear ev
    obtain ⟨cn109_109a, cn109_109c, ci109_109a, ci109_109c, ev, ht_v109_109, D_cn109_109, D_ci109_109⟩ := rdV_out D_v109_109
    subst ev; clear D_v109_109
    replace own_b6_37 := own_b6_37.ext hk
    replace kw := kw.x hk
    clear hR hk hg hP
    refine tail_store (b := b6_37) (o := 0) (v := (.agg #[(.int .u8 ((deepN 10).k)), (.int .i64 ((deepN 10).n)), (.string ((deepN 10).t)), (.slice cn109_109a (((deepN 10).ns).length) cn109_109c), (.slice ci109_109a (((deepN 10).xs).length) ci109_109c)])) e6 e109 sz33 rfl own_b6_37 (lbr rfl) (all_cons rfl (all_cons rfl (all_cons rfl (all_cons rfl (all_cons rfl all_nil))))) (fun W110 hs own_b6_37 => ?_)
    have own_b6_37 : Own W110 b6_37 [(.int .u8 ((deepN 10).k)), (.int .i64 ((deepN 10).n)), (.string ((deepN 10).t)), (.slice cn109_109a (((deepN 10).ns).length) cn109_109c), (.slice ci109_109a (((deepN 10).xs).length) ci109_109c)] 33 := own_b6_37
    replace D_v5_35 := sf_store D_v5_35 hs (by simp)
    replace D_cn109_102 := sf_store D_cn109_102 hs (by simp)
    replace D_ci109_102 := sf_store D_ci109_102 hs (by simp)
    replace D_cn109_109 := sf_store D_cn109_109 hs (by simp)
    replace D_ci109_109 := sf_store D_ci109_109 hs (by simp)
    replace kw := keeps_store kw hs lo_b6_37
    clear hs
    refine tail_nil (hK108 _ _ ?_)
    refine rg mixed y109 zz109 ?_
    refine .i (sp_move (hbs rfl e7)) ?_
    refine .i (sp_add (hlc rfl) Has.cst (i64_in (by omega))) ?_
    refine .i (sp_assign (hlc rfl)) ?_
    refine .done ⟨by kernel_rfl, fun a111 g W111 y111 zz111 hk hg hV hR hP => ?_⟩
    obtain ⟨e7, -, -, -⟩ := hV
    replace e5 := (hR 5 rfl).trans e5
    replace e6 := (hR 6 rfl).trans e6
    replace D_v5_35 := D_v5_35.ext hk
    replace D_cn109_109 := D_cn109_109.ext hk
    replace D_ci109_109 := D_ci109_109.ext hk
    have e7 : sl a111 7 = (.int .i64 (11)) := Eq.trans e7 (congrArg (Value.int .i64) (by decide))
    replace own_b6_37 := own_b6_37.ext hk
    replace kw := kw.x hk
    clear hR hk hg hP
    refine tail_nil (loopAt ?_)
    refine wp_seq_k fun K112 hK112 => ?_
    refine wp_seq_k fun K113 hK113 => ?_
    refine rg mixed y111 zz111 ?_
    refine .i (sp_move (hbs rfl e7)) ?_
    refine .i (sp_lss (hlc rfl) Has.cst) ?_
    refine .done ⟨by kernel_rfl, fun a114 g W114 y114 zz114 hk hg hV hR hP => ?_⟩
    obtain ⟨e104, -, -⟩ := hV
    replace e5 := (hR 5 rfl).trans e5
    replace e6 := (hR 6 rfl).trans e6
    replace e7 := (hR 7 rfl).trans e7
    replace D_v5_35 := D_v5_35.ext hk
    replace D_cn109_109 := D_cn109_109.ext hk
    replace D_ci109_109 := D_ci109_109.ext hk
    replace e104 := e104.q
    replace own_b6_37 := own_b6_37.ext hk
    replace kw := kw.x hk
    clear hR hk hg hP
    refine tail_nil (hK113 _ _ ?_)
    refine wp_cond_false (e104.trans (congrArg Value.bool (by decide))) ?_
    refine wp_exit (hK39 _ _ ?_)
    refine wp_seq_k fun K115 hK115 => ?_
    refine rg mixed y114 zz114 ?_
    refine .i (v := (.agg #[(.int .u8 ((deepN 10).k)), (.int .i64 ((deepN 10).n)), (.string ((deepN 10).t)), (.slice cn109_109a (((deepN 10).ns).length) cn109_109c), (.slice ci109_109a (((deepN 10).xs).length) ci109_109c)])) (loA (hbs rfl e6) own_b6_37 trivial agg33 sz33 rfl rfl) ?_
    refine .da (X := SF w [b6_37]) (e := valsD ([(deepN 10)])) (sp_bsl (ds := [V.d ((deepN 10))]) Try.underlying31 sz33 z33 (lbr rfl) (lbr rfl) ⟨rfl, ((hlc rfl).dat (rdV_in (x := (deepN 10)) ht_v109_109 D_cn109_109 D_ci109_109 : Rd W114 (SF w [b6_37]) (V.d ((deepN 10))) _) sub_all), trivial⟩ rfl (by intro e he; simp at he; rcases he with rfl <;> exact width_V _) (fr_sf kw (in_cons own_b6_37.lt in_nil))) ?_
    refine .da (X := SF w [b6_37]) (e := V.d (deepN 11)) (sp_buildD (zd := [.int .u8 0, .int .i64 0, .str ⟨#[]⟩, strsD [], valsD []]) (es := [(0, D.int .u8 (4)), (4, valsD ([(deepN 10)]))]) Try.underlying33 z33 (pl33 Try.underlying33) ⟨rfl, Has.cst.int, ⟨rfl, (hlc rfl), trivial⟩⟩ zV rfl (by simp [fits, width, strsD, valsD]) (by rw [V.d_eq]; rfl)) ?_
    refine .alloc z33 ?_
    refine .done ⟨by kernel_rfl, fun a116 g W116 y116 zz116 hk hg hV hR hP => ?_⟩
    obtain ⟨⟨b8_116, e8, hb8, own_b8_116⟩, e112, -, -, -⟩ := hV
    have lo_b8_116 : w.heap.size ≤ b8_116 := Nat.le_trans kw.size (hg.lo _ _ hb8)
    have ne_b6_37_b8_116 : b6_37 ≠ b8_116 := Nat.ne_of_lt (Nat.lt_of_lt_of_le own_b6_37.lt (hg.lo _ _ hb8))
    have own_b8_116 : Own W116 b8_116 [(.int .u8 (0)), (.int .i64 (0)), (.string (⟨#[]⟩)), (.slice none 0 0), (.slice none 0 0)] 33 := own_b8_116
    replace e5 := (hR 5 rfl).trans e5
    replace e6 := (hR 6 rfl).trans e6
    replace D_v5_35 := sf_more D_v5_35 hk [b8_116] (in_cons (hg.lo _ _ hb8) in_nil)
    replace D_cn109_109 := sf_more D_cn109_109 hk [b8_116] (in_cons (hg.lo _ _ hb8) in_nil)
    replace D_ci109_109 := sf_more D_ci109_109 hk [b8_116] (in_cons (hg.lo _ _ hb8) in_nil)
    obtain ⟨v112_116, ev⟩ : ∃ v, sl a116 112 = v := ⟨_, rfl⟩
    rw [ev] at e112
    have D_v112_116 : Rd W116 (SF w [b8_116, b6_37]) (V.d (deepN 11)) v112_116 := sf_end e112 hk [b8_116] (in_cons ⟨_, hb8⟩ in_nil)
    replace e112 := ev; clear ev
    obtain ⟨cn112_116a, cn112_116c, ci112_116a, ci112_116c, ev, ht_v112_116, D_cn112_116, D_ci112_116⟩ := rdV_out D_v112_116
    subst ev; clear D_v112_116
    replace own_b6_37 := own_b6_37.ext hk
    replace kw := kw.x hk
    clear hR hk hg hP hb8
    refine tail_store (b := b8_116) (o := 0) (v := (.agg #[(.int .u8 ((deepN 11).k)), (.int .i64 ((deepN 11).n)), (.string ((deepN 11).t)), (.slice cn112_116a (((deepN 11).ns).length) cn112_116c), (.slice ci112_116a (((deepN 11).xs).length) ci112_116c)])) e8 e112 sz33 rfl own_b8_116 (lbr rfl) (all_cons rfl (all_cons rfl (all_cons rfl (all_cons rfl (all_cons rfl all_nil))))) (fun W117 hs own_b8_116 => ?_)
    have own_b8_116 : Own W117 b8_116 [(.int .u8 ((deepN 11).k)), (.int .i64 ((deepN 11).n)), (.string ((deepN 11).t)), (.slice cn112_116a (((deepN 11).ns).length) cn112_116c), (.slice ci112_116a (((deepN 11).xs).length) ci112_116c)] 33 := own_b8_116
    replace own_b6_37 := own_store own_b6_37 hs ne_b6_37_b8_116
    replace D_v5_35 := sf_store D_v5_35 hs (by simp)
    replace D_cn109_109 := sf_store D_cn109_109 hs (by simp)
    replace D_ci109_109 := sf_store D_ci109_109 hs (by simp)
    replace D_cn112_116 := sf_store D_cn112_116 hs (by simp)
    replace D_ci112_116 := sf_store D_ci112_116 hs (by simp)
    replace kw := keeps_store kw hs lo_b8_116
    clear hs
    refine tail_nil (hK115 _ _ ?_)
    refine wp_seq_k fun K118 hK118 => ?_
    refine wp_seq_k fun K119 hK119 => ?_
    refine rg mixed y116 zz116 ?_
    refine .i (sp_move (hbs rfl e5)) ?_
    refine .i (v := (.agg #[(.int .i64 (1099511627776)), (.slice v5_35a (([Hs.mk (⟨#[115, 104, 97, 50, 53, 54]⟩) (⟨#[97, 98]⟩)]).length) v5_35c), (.int .u8 (0)), (.int .i64 (0)), (.string (⟨#[]⟩)), (.slice none 0 0), (.slice none 0 0)])) (sp_build (vs := [(0, (.int .i64 (1099511627776))), (1, (.slice v5_35a (([Hs.mk (⟨#[115, 104, 97, 50, 53, 54]⟩) (⟨#[97, 98]⟩)]).length) v5_35c))]) Try.underlying87 z87 (pl87 Try.underlying87) ⟨rfl, Has.cst, rfl, (hlc rfl), trivial⟩ rfl) ?_
    refine .i (v := (.bool (mayR (Rc.mk (1099511627776) ([Hs.mk (⟨#[115, 104, 97, 50, 53, 54]⟩) (⟨#[97, 98]⟩)]) (V.mk (0) (0) (⟨#[]⟩) ([]) ([])))))) (sp_call1 (φ1 := IsD (SF w [b8_116, b6_37]) (Rc.d (Rc.mk (1099511627776) ([Hs.mk (⟨#[115, 104, 97, 50, 53, 54]⟩) (⟨#[97, 98]⟩)]) (V.mk (0) (0) (⟨#[]⟩) ([]) ([]))))) ent70 ((hlc rfl).dat (rdRc_mk D_v5_35 (rdV_mk (lbr rfl) (rd_nil _) (rd_nil _) : Rd W117 (SF w [b8_116, b6_37]) (V.d (V.mk (0) (0) (⟨#[]⟩) ([]) ([]))) _) : Rd W117 (SF w [b8_116, b6_37]) (Rc.d (Rc.mk (1099511627776) ([Hs.mk (⟨#[115, 104, 97, 50, 53, 54]⟩) (⟨#[97, 98]⟩)]) (V.mk (0) (0) (⟨#[]⟩) ([]) ([])))) _) sub_all) (fun g u1 W hk hgk h1 => MayR_ok (Rc.mk (1099511627776) ([Hs.mk (⟨#[115, 104, 97, 50, 53, 54]⟩) (⟨#[97, 98]⟩)]) (V.mk (0) (0) (⟨#[]⟩) ([]) ([]))) (Nat.le_of_ble_eq_true (by kernel_rfl)) W _ _ (fun b o h => h.1.2.1) h1)) ?_
    refine .i (sp_not (hlc rfl)) ?_
    refine .i (sp_move (hlc rfl)) ?_
    refine .e (t := 117) rfl (hlc rfl) (fun hg => sp_move (hbs rfl e5)) ?_
    refine .e (t := 117) (v := (.agg #[(.int .i64 (1099511627777)), (.slice v5_35a (([Hs.mk (⟨#[115, 104, 97, 50, 53, 54]⟩) (⟨#[97, 98]⟩)]).length) v5_35c), (.int .u8 (0)), (.int .i64 (0)), (.string (⟨#[]⟩)), (.slice none 0 0), (.slice none 0 0)])) rfl (hlc rfl) (fun hg => sp_build (vs := [(0, (.int .i64 (1099511627777))), (1, (.slice v5_35a (([Hs.mk (⟨#[115, 104, 97, 50, 53, 54]⟩) (⟨#[97, 98]⟩)]).length) v5_35c))]) Try.underlying87 z87 (pl87 Try.underlying87) ⟨rfl, Has.cst, rfl, ((hlc rfl).undE hg), trivial⟩ rfl) ?_
    refine .e (t := 117) (v := (.bool (mayR (Rc.mk (1099511627777) ([Hs.mk (⟨#[115, 104, 97, 50, 53, 54]⟩) (⟨#[97, 98]⟩)]) (V.mk (0) (0) (⟨#[]⟩) ([]) ([])))))) rfl (hlc rfl) (fun hg => sp_call1 (φ1 := IsD (SF w [b8_116, b6_37]) (Rc.d (Rc.mk (1099511627777) ([Hs.mk (⟨#[115, 104, 97, 50, 53, 54]⟩) (⟨#[97, 98]⟩)]) (V.mk (0) (0) (⟨#[]⟩) ([]) ([]))))) ent70 (((hlc rfl).undE hg).dat (rdRc_mk D_v5_35 (rdV_mk (lbr rfl) (rd_nil _) (rd_nil _) : Rd W117 (SF w [b8_116, b6_37]) (V.d (V.mk (0) (0) (⟨#[]⟩) ([]) ([]))) _) : Rd W117 (SF w [b8_116, b6_37]) (Rc.d (Rc.mk (1099511627777) ([Hs.mk (⟨#[115, 104, 97, 50, 53, 54]⟩) (⟨#[97, 98]⟩)]) (V.mk (0) (0) (⟨#[]⟩) ([]) ([])))) _) sub_all) (fun g u1 W hk hgk h1 => MayR_ok (Rc.mk (1099511627777) ([Hs.mk (⟨#[115, 104, 97, 50, 53, 54]⟩) (⟨#[97, 98]⟩)]) (V.mk (0) (0) (⟨#[]⟩) ([]) ([]))) (Nat.le_of_ble_eq_true (by kernel_rfl)) W _ _ (fun b o h => h.1.2.1) h1)) ?_
    refine .i (sp_or (hlc rfl) ((hlc rfl).weak fun hq => hq)) ?_
    refine .i (sp_move (hlc rfl)) ?_
    refine .e (t := 122) rfl (hlc rfl) (fun hg => sp_move (hbs rfl e5)) ?_
    refine .e (t := 122) (v := (.agg #[(.int .i64 (-1)), (.slice v5_35a (([Hs.mk (⟨#[115, 104, 97, 50, 53, 54]⟩) (⟨#[97, 98]⟩)]).length) v5_35c), (.int .u8 (0)), (.int .i64 (0)), (.string (⟨#[]⟩)), (.slice none 0 0), (.slice none 0 0)])) rfl (hlc rfl) (fun hg => sp_build (vs := [(0, (.int .i64 (-1))), (1, (.slice v5_35a (([Hs.mk (⟨#[115, 104, 97, 50, 53, 54]⟩) (⟨#[97, 98]⟩)]).length) v5_35c))]) Try.underlying87 z87 (pl87 Try.underlying87) ⟨rfl, Has.cst, rfl, ((hlc rfl).undE hg), trivial⟩ rfl) ?_
    refine .e (t := 122) (v := (.bool (mayR (Rc.mk (-1) ([Hs.mk (⟨#[115, 104, 97, 50, 53, 54]⟩) (⟨#[97, 98]⟩)]) (V.mk (0) (0) (⟨#[]⟩) ([]) ([])))))) rfl (hlc rfl) (fun hg => sp_call1 (φ1 := IsD (SF w [b8_116, b6_37]) (Rc.d (Rc.mk (-1) ([Hs.mk (⟨#[115, 104, 97, 50, 53, 54]⟩) (⟨#[97, 98]⟩)]) (V.mk (0) (0) (⟨#[]⟩) ([]) ([]))))) ent70 (((hlc rfl).undE hg).dat (rdRc_mk D_v5_35 (rdV_mk (lbr rfl) (rd_nil _) (rd_nil _) : Rd W117 (SF w [b8_116, b6_37]) (V.d (V.mk (0) (0) (⟨#[]⟩) ([]) ([]))) _) : Rd W117 (SF w [b8_116, b6_37]) (Rc.d (Rc.mk (-1) ([Hs.mk (⟨#[115, 104, 97, 50, 53, 54]⟩) (⟨#[97, 98]⟩)]) (V.mk (0) (0) (⟨#[]⟩) ([]) ([])))) _) sub_all) (fun g u1 W hk hgk h1 => MayR_ok (Rc.mk (-1) ([Hs.mk (⟨#[115, 104, 97, 50, 53, 54]⟩) (⟨#[97, 98]⟩)]) (V.mk (0) (0) (⟨#[]⟩) ([]) ([]))) (Nat.le_of_ble_eq_true (by kernel_rfl)) W _ _ (fun b o h => h.1.2.1) h1)) ?_
    refine .i (sp_or (hlc rfl) ((hlc rfl).weak fun hq => hq)) ?_
    refine .i (sp_move (hlc rfl)) ?_
    refine .e (t := 127) rfl (hlc rfl) (fun hg => sp_move (hbs rfl e5)) ?_
    refine .e (t := 127) (v := (.agg #[(.int .u8 ((deepN 10).k)), (.int .i64 ((deepN 10).n)), (.string ((deepN 10).t)), (.slice cn109_109a (((deepN 10).ns).length) cn109_109c), (.slice ci109_109a (((deepN 10).xs).length) ci109_109c)])) rfl (hlc rfl) (fun hg => loA (hbs rfl e6) own_b6_37 trivial agg33 sz33 rfl rfl) ?_
    refine .e (t := 127) (v := (.agg #[(.int .i64 (0)), (.slice v5_35a (([Hs.mk (⟨#[115, 104, 97, 50, 53, 54]⟩) (⟨#[97, 98]⟩)]).length) v5_35c), (.int .u8 ((deepN 10).k)), (.int .i64 ((deepN 10).n)), (.string ((deepN 10).t)), (.slice cn109_109a (((deepN 10).ns).length) cn109_109c), (.slice ci109_109a (((deepN 10).xs).length) ci109_109c)])) rfl (hlc rfl) (fun hg => sp_build (vs := [(1, (.slice v5_35a (([Hs.mk (⟨#[115, 104, 97, 50, 53, 54]⟩) (⟨#[97, 98]⟩)]).length) v5_35c)), (2, (.agg #[(.int .u8 ((deepN 10).k)), (.int .i64 ((deepN 10).n)), (.string ((deepN 10).t)), (.slice cn109_109a (((deepN 10).ns).length) cn109_109c), (.slice ci109_109a (((deepN 10).xs).length) ci109_109c)]))]) Try.underlying87 z87 (pl87 Try.underlying87) ⟨rfl, ((hlc rfl).undE hg), rfl, ((hlc rfl).undE hg), trivial⟩ (by kernel_rfl)) ?_
    refine .e (t := 127) (v := (.bool (mayR (Rc.mk (0) ([Hs.mk (⟨#[115, 104, 97, 50, 53, 54]⟩) (⟨#[97, 98]⟩)]) ((deepN 10)))))) rfl (hlc rfl) (fun hg => sp_call1 (φ1 := IsD (SF w [b8_116, b6_37]) (Rc.d (Rc.mk (0) ([Hs.mk (⟨#[115, 104, 97, 50, 53, 54]⟩) (⟨#[97, 98]⟩)]) ((deepN 10))))) ent70 (((hlc rfl).undE hg).dat (rdRc_mk D_v5_35 (rdV_in (x := (deepN 10)) ht_v109_109 D_cn109_109 D_ci109_109 : Rd W117 (SF w [b8_116, b6_37]) (V.d ((deepN 10))) _) : Rd W117 (SF w [b8_116, b6_37]) (Rc.d (Rc.mk (0) ([Hs.mk (⟨#[115, 104, 97, 50, 53, 54]⟩) (⟨#[97, 98]⟩)]) ((deepN 10)))) _) sub_all) (fun g u1 W hk hgk h1 => MayR_ok (Rc.mk (0) ([Hs.mk (⟨#[115, 104, 97, 50, 53, 54]⟩) (⟨#[97, 98]⟩)]) ((deepN 10))) (Nat.le_of_ble_eq_true (by kernel_rfl)) W _ _ (fun b o h => h.1.2.1) h1)) ?_
    refine .e (t := 127) rfl (hlc rfl) (fun hg => sp_not ((hlc rfl).undE hg)) ?_
    refine .i (sp_or (hlc rfl) ((hlc rfl).weak fun hq => hq)) ?_
    refine .i (sp_move (hlc rfl)) ?_
    refine .e (t := 134) rfl (hlc rfl) (fun hg => sp_move (hbs rfl e5)) ?_
    refine .e (t := 134) (v := (.agg #[(.int .u8 ((deepN 11).k)), (.int .i64 ((deepN 11).n)), (.string ((deepN 11).t)), (.slice cn112_116a (((deepN 11).ns).length) cn112_116c), (.slice ci112_116a (((deepN 11).xs).length) ci112_116c)])) rfl (hlc rfl) (fun hg => loA (hbs rfl e8) own_b8_116 trivial agg33 sz33 rfl rfl) ?_
    refine .e (t := 134) (v := (.agg #[(.int .i64 (0)), (.slice v5_35a (([Hs.mk (⟨#[115, 104, 97, 50, 53, 54]⟩) (⟨#[97, 98]⟩)]).length) v5_35c), (.int .u8 ((deepN 11).k)), (.int .i64 ((deepN 11).n)), (.string ((deepN 11).t)), (.slice cn112_116a (((deepN 11).ns).length) cn112_116c), (.slice ci112_116a (((deepN 11).xs).length) ci112_116c)])) rfl (hlc rfl) (fun hg => sp_build (vs := [(1, (.slice v5_35a (([Hs.mk (⟨#[115, 104, 97, 50, 53, 54]⟩) (⟨#[97, 98]⟩)]).length) v5_35c)), (2, (.agg #[(.int .u8 ((deepN 11).k)), (.int .i64 ((deepN 11).n)), (.string ((deepN 11).t)), (.slice cn112_116a (((deepN 11).ns).length) cn112_116c), (.slice ci112_116a (((deepN 11).xs).length) ci112_116c)]))]) Try.underlying87 z87 (pl87 Try.underlying87) ⟨rfl, ((hlc rfl).undE hg), rfl, ((hlc rfl).undE hg), trivial⟩ (by kernel_rfl)) ?_
    refine .e (t := 134) (v := (.bool (mayR (Rc.mk (0) ([Hs.mk (⟨#[115, 104, 97, 50, 53, 54]⟩) (⟨#[97, 98]⟩)]) ((deepN 11)))))) rfl (hlc rfl) (fun hg => sp_call1 (φ1 := IsD (SF w [b8_116, b6_37]) (Rc.d (Rc.mk (0) ([Hs.mk (⟨#[115, 104, 97, 50, 53, 54]⟩) (⟨#[97, 98]⟩)]) ((deepN 11))))) ent70 (((hlc rfl).undE hg).dat (rdRc_mk D_v5_35 (rdV_in (x := (deepN 11)) ht_v112_116 D_cn112_116 D_ci112_116 : Rd W117 (SF w [b8_116, b6_37]) (V.d ((deepN 11))) _) : Rd W117 (SF w [b8_116, b6_37]) (Rc.d (Rc.mk (0) ([Hs.mk (⟨#[115, 104, 97, 50, 53, 54]⟩) (⟨#[97, 98]⟩)]) ((deepN 11)))) _) sub_all) (fun g u1 W hk hgk h1 => MayR_ok (Rc.mk (0) ([Hs.mk (⟨#[115, 104, 97, 50, 53, 54]⟩) (⟨#[97, 98]⟩)]) ((deepN 11))) (Nat.le_of_ble_eq_true (by kernel_rfl)) W _ _ (fun b o h => h.1.2.1) h1)) ?_
    refine .i (sp_or (hlc rfl) ((hlc rfl).weak fun hq => hq)) ?_
    refine .i (sp_move (hlc rfl)) ?_
    refine .e (t := 140) rfl (hlc rfl) (fun hg => sp_move (hbs rfl e5)) ?_
    refine .e (t := 140) (v := (.agg #[(.int .u8 (0)), (.int .i64 (0)), (.string (⟨#[120]⟩)), (.slice none 0 0), (.slice none 0 0)])) rfl (hlc rfl) (fun hg => sp_build (vs := [(2, (.string (⟨#[120]⟩)))]) Try.underlying33 z33 (pl33 Try.underlying33) ⟨rfl, Has.cst, trivial⟩ rfl) ?_
    refine .e (t := 140) (v := (.agg #[(.int .i64 (0)), (.slice v5_35a (([Hs.mk (⟨#[115, 104, 97, 50, 53, 54]⟩) (⟨#[97, 98]⟩)]).length) v5_35c), (.int .u8 (0)), (.int .i64 (0)), (.string (⟨#[120]⟩)), (.slice none 0 0), (.slice none 0 0)])) rfl (hlc rfl) (fun hg => sp_build (vs := [(1, (.slice v5_35a (([Hs.mk (⟨#[115, 104, 97, 50, 53, 54]⟩) (⟨#[97, 98]⟩)]).length) v5_35c)), (2, (.agg #[(.int .u8 (0)), (.int .i64 (0)), (.string (⟨#[120]⟩)), (.slice none 0 0), (.slice none 0 0)]))]) Try.underlying87 z87 (pl87 Try.underlying87) ⟨rfl, ((hlc rfl).undE hg), rfl, ((hlc rfl).undE hg), trivial⟩ (by kernel_rfl)) ?_
    refine .e (t := 140) (v := (.bool (mayR (Rc.mk (0) ([Hs.mk (⟨#[115, 104, 97, 50, 53, 54]⟩) (⟨#[97, 98]⟩)]) (V.mk (0) (0) (⟨#[120]⟩) ([]) ([])))))) rfl (hlc rfl) (fun hg => sp_call1 (φ1 := IsD (SF w [b8_116, b6_37]) (Rc.d (Rc.mk (0) ([Hs.mk (⟨#[115, 104, 97, 50, 53, 54]⟩) (⟨#[97, 98]⟩)]) (V.mk (0) (0) (⟨#[120]⟩) ([]) ([]))))) ent70 (((hlc rfl).undE hg).dat (rdRc_mk D_v5_35 (rdV_mk (lbr rfl) (rd_nil _) (rd_nil _) : Rd W117 (SF w [b8_116, b6_37]) (V.d (V.mk (0) (0) (⟨#[120]⟩) ([]) ([]))) _) : Rd W117 (SF w [b8_116, b6_37]) (Rc.d (Rc.mk (0) ([Hs.mk (⟨#[115, 104, 97, 50, 53, 54]⟩) (⟨#[97, 98]⟩)]) (V.mk (0) (0) (⟨#[120]⟩) ([]) ([])))) _) sub_all) (fun g u1 W hk hgk h1 => MayR_ok (Rc.mk (0) ([Hs.mk (⟨#[115, 104, 97, 50, 53, 54]⟩) (⟨#[97, 98]⟩)]) (V.mk (0) (0) (⟨#[120]⟩) ([]) ([]))) (Nat.le_of_ble_eq_true (by kernel_rfl)) W _ _ (fun b o h => h.1.2.1) h1)) ?_
    refine .i (sp_or (hlc rfl) ((hlc rfl).weak fun hq => hq)) ?_
    refine .i (sp_move (hlc rfl)) ?_
    refine .e (t := 146) rfl (hlc rfl) (fun hg => sp_move (hbs rfl e5)) ?_
    refine .e (t := 146) (v := (.agg #[(.int .u8 (9)), (.int .i64 (0)), (.string (⟨#[]⟩)), (.slice none 0 0), (.slice none 0 0)])) rfl (hlc rfl) (fun hg => sp_build (vs := [(0, (.int .u8 (9)))]) Try.underlying33 z33 (pl33 Try.underlying33) ⟨rfl, Has.cst, trivial⟩ rfl) ?_
    refine .e (t := 146) (v := (.agg #[(.int .i64 (0)), (.slice v5_35a (([Hs.mk (⟨#[115, 104, 97, 50, 53, 54]⟩) (⟨#[97, 98]⟩)]).length) v5_35c), (.int .u8 (9)), (.int .i64 (0)), (.string (⟨#[]⟩)), (.slice none 0 0), (.slice none 0 0)])) rfl (hlc rfl) (fun hg => sp_build (vs := [(1, (.slice v5_35a (([Hs.mk (⟨#[115, 104, 97, 50, 53, 54]⟩) (⟨#[97, 98]⟩)]).length) v5_35c)), (2, (.agg #[(.int .u8 (9)), (.int .i64 (0)), (.string (⟨#[]⟩)), (.slice none 0 0), (.slice none 0 0)]))]) Try.underlying87 z87 (pl87 Try.underlying87) ⟨rfl, ((hlc rfl).undE hg), rfl, ((hlc rfl).undE hg), trivial⟩ (by kernel_rfl)) ?_
    refine .e (t := 146) (v := (.bool (mayR (Rc.mk (0) ([Hs.mk (⟨#[115, 104, 97, 50, 53, 54]⟩) (⟨#[97, 98]⟩)]) (V.mk (9) (0) (⟨#[]⟩) ([]) ([])))))) rfl (hlc rfl) (fun hg => sp_call1 (φ1 := IsD (SF w [b8_116, b6_37]) (Rc.d (Rc.mk (0) ([Hs.mk (⟨#[115, 104, 97, 50, 53, 54]⟩) (⟨#[97, 98]⟩)]) (V.mk (9) (0) (⟨#[]⟩) ([]) ([]))))) ent70 (((hlc rfl).undE hg).dat (rdRc_mk D_v5_35 (rdV_mk (lbr rfl) (rd_nil _) (rd_nil _) : Rd W117 (SF w [b8_116, b6_37]) (V.d (V.mk (9) (0) (⟨#[]⟩) ([]) ([]))) _) : Rd W117 (SF w [b8_116, b6_37]) (Rc.d (Rc.mk (0) ([Hs.mk (⟨#[115, 104, 97, 50, 53, 54]⟩) (⟨#[97, 98]⟩)]) (V.mk (9) (0) (⟨#[]⟩) ([]) ([])))) _) sub_all) (fun g u1 W hk hgk h1 => MayR_ok (Rc.mk (0) ([Hs.mk (⟨#[115, 104, 97, 50, 53, 54]⟩) (⟨#[97, 98]⟩)]) (V.mk (9) (0) (⟨#[]⟩) ([]) ([]))) (Nat.le_of_ble_eq_true (by kernel_rfl)) W _ _ (fun b o h => h.1.2.1) h1)) ?_
    refine .i (sp_or (hlc rfl) ((hlc rfl).weak fun hq => hq)) ?_
    refine .done ⟨by kernel_rfl, fun a120 g W120 y120 zz120 hk hg hV hR hP => ?_⟩
    obtain ⟨e151, -, -, -, -, -, -, -, -, -, -, -, -, -, -, -, -, -, -, -, -, -, -, -, -, -, -, -, -, -, -, -, -, -, -, -, -, -, -, -⟩ := hV
    replace D_v5_35 := D_v5_35.ext hk
    replace D_cn109_109 := D_cn109_109.ext hk
    replace D_ci109_109 := D_ci109_109.ext hk
    replace D_cn112_116 := D_cn112_116.ext hk
    replace D_ci112_116 := D_ci112_116.ext hk
    replace e151 := e151.q
    replace own_b6_37 := own_b6_37.ext hk
    replace own_b8_116 := own_b8_116.ext hk
    replace kw := kw.x hk
    clear hR hk hg hP
    refine tail_nil (hK119 _ _ ?_)
    refine wp_cond_split e151 (fun hc => ?_) (fun hc => ?_)
    ·
     exfalso
     exact Bool.noConfusion (hc.symm.trans (by kernel_rfl : _ = false))
    ·
     refine wp_skip (hK118 _ _ ?_)
     refine wp_seq_k fun K121 hK121 => ?_
     refine rg mixed y120 zz120 ?_
     refine .i (v := (.agg #[(.int .u8 (2)), (.int .i64 (1)), (.string (⟨#[]⟩)), (.slice none 0 0), (.slice none 0 0)])) (sp_build (vs := [(0, (.int .u8 (2))), (1, (.int .i64 (1)))]) Try.underlying33 z33 (pl33 Try.underlying33) ⟨rfl, Has.cst, rfl, Has.cst, trivial⟩ rfl) ?_
     refine .i (v := (.agg #[(.int .u8 (3)), (.int .i64 (0)), (.string (⟨#[97, 98]⟩)), (.slice none 0 0), (.slice none 0 0)])) (sp_build (vs := [(0, (.int .u8 (3))), (2, (.string (⟨#[97, 98]⟩)))]) Try.underlying33 z33 (pl33 Try.underlying33) ⟨rfl, Has.cst, rfl, Has.cst, trivial⟩ rfl) ?_
     refine .alloc z33 ?_
     refine .alloc z33 ?_
     refine .done ⟨by kernel_rfl, fun a122 g W122 y122 zz122 hk hg hV hR hP => ?_⟩
     obtain ⟨⟨b10_122, e10, hb10, own_b10_122⟩, ⟨b9_122, e9, hb9, own_b9_122⟩, e153, e152, -⟩ := hV
     have lo_b10_122 : w.heap.size ≤ b10_122 := Nat.le_trans kw.size (hg.lo _ _ hb10)
     have ne_b6_37_b10_122 : b6_37 ≠ b10_122 := Nat.ne_of_lt (Nat.lt_of_lt_of_le own_b6_37.lt (hg.lo _ _ hb10))
     have ne_b8_116_b10_122 : b8_116 ≠ b10_122 := Nat.ne_of_lt (Nat.lt_of_lt_of_le own_b8_116.lt (hg.lo _ _ hb10))
     have own_b10_122 : Own W122 b10_122 [(.int .u8 (0)), (.int .i64 (0)), (.string (⟨#[]⟩)), (.slice none 0 0), (.slice none 0 0)] 33 := own_b10_122
     have lo_b9_122 : w.heap.size ≤ b9_122 := Nat.le_trans kw.size (hg.lo _ _ hb9)
     have ne_b6_37_b9_122 : b6_37 ≠ b9_122 := Nat.ne_of_lt (Nat.lt_of_lt_of_le own_b6_37.lt (hg.lo _ _ hb9))
     have ne_b8_116_b9_122 : b8_116 ≠ b9_122 := Nat.ne_of_lt (Nat.lt_of_lt_of_le own_b8_116.lt (hg.lo _ _ hb9))
     have own_b9_122 : Own W122 b9_122 [(.int .u8 (0)), (.int .i64 (0)), (.string (⟨#[]⟩)), (.slice none 0 0), (.slice none 0 0)] 33 := own_b9_122
     have ne_b10_122_b9_122 : b10_122 ≠ b9_122 := fun h => by have := hg.inj _ _ _ hb10 (h ▸ hb9); cases this
     replace e152 := e152.q
     replace e153 := e153.q
     replace own_b6_37 := own_b6_37.ext hk
     replace own_b8_116 := own_b8_116.ext hk
     replace kw := kw.x hk
     clear hR hk hg hP hb10 hb9
     refine tail_store (b := b9_122) (o := 0) (v := (.agg #[(.int .u8 (2)), (.int .i64 (1)), (.string (⟨#[]⟩)), (.slice none 0 0), (.slice none 0 0)])) e9 e152 sz33 rfl own_b9_122 (lbr rfl) (all_cons rfl (all_cons rfl (all_cons rfl (all_cons rfl (all_cons rfl all_nil))))) (fun W123 hs own_b9_122 => ?_)
     have own_b9_122 : Own W123 b9_122 [(.int .u8 (2)), (.int .i64 (1)), (.string (⟨#[]⟩)), (.slice none 0 0), (.slice none 0 0)] 33 := own_b9_122
     replace own_b6_37 := own_store own_b6_37 hs ne_b6_37_b9_122
     replace own_b8_116 := own_store own_b8_116 hs ne_b8_116_b9_122
     replace own_b10_122 := own_store own_b10_122 hs ne_b10_122_b9_122
     replace kw := keeps_store kw hs lo_b9_122
     clear hs
     refine tail_store (b := b10_122) (o := 0) (v := (.agg #[(.int .u8 (3)), (.int .i64 (0)), (.string (⟨#[97, 98]⟩)), (.slice none 0 0), (.slice none 0 0)])) e10 e153 sz33 rfl own_b10_122 (lbr rfl) (all_cons rfl (all_cons rfl (all_cons rfl (all_cons rfl (all_cons rfl all_nil))))) (fun W124 hs own_b10_122 => ?_)
     have own_b10_122 : Own W124 b10_122 [(.int .u8 (3)), (.int .i64 (0)), (.string (⟨#[97, 98]⟩)), (.slice none 0 0), (.slice none 0 0)] 33 := own_b10_122
     replace own_b6_37 := own_store own_b6_37 hs ne_b6_37_b10_122
     replace own_b8_116 := own_store own_b8_116 hs ne_b8_116_b10_122
     replace own_b9_122 := own_store own_b9_122 hs ne_b10_122_b9_122.symm
     replace kw := keeps_store kw hs lo_b10_122
     clear hs
     refine tail_nil (hK121 _ _ ?_)
     refine wp_seq_k fun K125 hK125 => ?_
     refine rg mixed y122 zz122 ?_
     refine .da (X := SF w [b10_122, b9_122, b8_116, b6_37]) (e := strsD ([⟨#[97]⟩])) (sp_bsl (ds := [D.str (⟨#[97]⟩)]) Try.underlying23 sz9 z9 (lbr rfl) (lbr rfl) ⟨rfl, (Has.cst.str (lbr rfl)), trivial⟩ rfl (by simp [width]) (fr_sf kw (in_cons own_b10_122.lt (in_cons own_b9_122.lt (in_cons own_b8_116.lt (in_cons own_b6_37.lt in_nil)))))) ?_
     refine .i (v := (.agg #[(.int .u8 (3)), (.int .i64 (0)), (.string (⟨#[97, 98]⟩)), (.slice none 0 0), (.slice none 0 0)])) (loA (hbs rfl e10) own_b10_122 trivial agg33 sz33 rfl rfl) ?_
     refine .da (X := SF w [b10_122, b9_122, b8_116, b6_37]) (e := valsD ([V.mk (3) (0) (⟨#[97, 98]⟩) ([]) ([])])) (sp_bsl (ds := [V.d (V.mk (3) (0) (⟨#[97, 98]⟩) ([]) ([]))]) Try.underlying31 sz33 z33 (lbr rfl) (lbr rfl) ⟨rfl, ((hlc rfl).dat (rdV_mk (lbr rfl) (rd_nil _) (rd_nil _) : Rd W124 (SF w [b10_122, b9_122, b8_116, b6_37]) (V.d (V.mk (3) (0) (⟨#[97, 98]⟩) ([]) ([]))) _) sub_all), trivial⟩ rfl (by intro e he; simp at he; rcases he with rfl <;> exact width_V _) (fr_sf kw (in_cons own_b10_122.lt (in_cons own_b9_122.lt (in_cons own_b8_116.lt (in_cons own_b6_37.lt in_nil)))))) ?_
     refine .da (X := SF w [b10_122, b9_122, b8_116, b6_37]) (e := V.d (V.mk (5) (0) (⟨#[]⟩) ([⟨#[97]⟩]) ([V.mk (3) (0) (⟨#[97, 98]⟩) ([]) ([])]))) (sp_buildD (zd := [.int .u8 0, .int .i64 0, .str ⟨#[]⟩, strsD [], valsD []]) (es := [(0, D.int .u8 (5)), (3, strsD ([⟨#[97]⟩])), (4, valsD ([V.mk (3) (0) (⟨#[97, 98]⟩) ([]) ([])]))]) Try.underlying33 z33 (pl33 Try.underlying33) ⟨rfl, Has.cst.int, ⟨rfl, (hlc rfl), ⟨rfl, (hlc rfl), trivial⟩⟩⟩ zV rfl (by simp [fits, width, strsD, valsD]) (by rw [V.d_eq]; rfl)) ?_
     refine .alloc z33 ?_
     refine .done ⟨by kernel_rfl, fun a126 g W126 y126 zz126 hk hg hV hR hP => ?_⟩
     obtain ⟨⟨b11_126, e11, hb11, own_b11_126⟩, e157, -, -, -, -⟩ := hV
     have lo_b11_126 : w.heap.size ≤ b11_126 := Nat.le_trans kw.size (hg.lo _ _ hb11)
     have ne_b6_37_b11_126 : b6_37 ≠ b11_126 := Nat.ne_of_lt (Nat.lt_of_lt_of_le own_b6_37.lt (hg.lo _ _ hb11))
     have ne_b8_116_b11_126 : b8_116 ≠ b11_126 := Nat.ne_of_lt (Nat.lt_of_lt_of_le own_b8_116.lt (hg.lo _ _ hb11))
     have ne_b10_122_b11_126 : b10_122 ≠ b11_126 := Nat.ne_of_lt (Nat.lt_of_lt_of_le own_b10_122.lt (hg.lo _ _ hb11))
     have ne_b9_122_b11_126 : b9_122 ≠ b11_126 := Nat.ne_of_lt (Nat.lt_of_lt_of_le own_b9_122.lt (hg.lo _ _ hb11))
     have own_b11_126 : Own W126 b11_126 [(.int .u8 (0)), (.int .i64 (0)), (.string (⟨#[]⟩)), (.slice none 0 0), (.slice none 0 0)] 33 := own_b11_126
     replace e10 := (hR 10 rfl).trans e10
     replace e9 := (hR 9 rfl).trans e9
     obtain ⟨v157_126, ev⟩ : ∃ v, sl a126 157 = v := ⟨_, rfl⟩
     rw [ev] at e157
     have D_v157_126 : Rd W126 (SF w [b11_126, b10_122, b9_122, b8_116, b6_37]) (V.d (V.mk (5) (0) (⟨#[]⟩) ([⟨#[97]⟩]) ([V.mk (3) (0) (⟨#[97, 98]⟩) ([]) ([])]))) v157_126 := sf_end e157 hk [b11_126] (in_cons ⟨_, hb11⟩ in_nil)
     replace e157 := ev; clear ev
     obtain ⟨cn157_126a, cn157_126c, ci157_126a, ci157_126c, ev, ht_v157_126, D_cn157_126, D_ci157_126⟩ := rdV_out D_v157_126
     subst ev; clear D_v157_126
     replace own_b6_37 := own_b6_37.ext hk
     replace own_b8_116 := own_b8_116.ext hk
     replace own_b10_122 := own_b10_122.ext hk
     replace own_b9_122 := own_b9_122.ext hk
     replace kw := kw.x hk
     clear hR hk hg hP hb11
     refine tail_store (b := b11_126) (o := 0) (v := (.agg #[(.int .u8 ((V.mk (5) (0) (⟨#[]⟩) ([⟨#[97]⟩]) ([V.mk (3) (0) (⟨#[97, 98]⟩) ([]) ([])])).k)), (.int .i64 ((V.mk (5) (0) (⟨#[]⟩) ([⟨#[97]⟩]) ([V.mk (3) (0) (⟨#[97, 98]⟩) ([]) ([])])).n)), (.string ((V.mk (5) (0) (⟨#[]⟩) ([⟨#[97]⟩]) ([V.mk (3) (0) (⟨#[97, 98]⟩) ([]) ([])])).t)), (.slice cn157_126a (((V.mk (5) (0) (⟨#[]⟩) ([⟨#[97]⟩]) ([V.mk (3) (0) (⟨#[97, 98]⟩) ([]) ([])])).ns).length) cn157_126c), (.slice ci157_126a (((V.mk (5) (0) (⟨#[]⟩) ([⟨#[97]⟩]) ([V.mk (3) (0) (⟨#[97, 98]⟩) ([]) ([])])).xs).length) ci157_126c)])) e11 e157 sz33 rfl own_b11_126 (lbr rfl) (all_cons rfl (all_cons rfl (all_cons rfl (all_cons rfl (all_cons rfl all_nil))))) (fun W127 hs own_b11_126 => ?_)
     have own_b11_126 : Own W127 b11_126 [(.int .u8 ((V.mk (5) (0) (⟨#[]⟩) ([⟨#[97]⟩]) ([V.mk (3) (0) (⟨#[97, 98]⟩) ([]) ([])])).k)), (.int .i64 ((V.mk (5) (0) (⟨#[]⟩) ([⟨#[97]⟩]) ([V.mk (3) (0) (⟨#[97, 98]⟩) ([]) ([])])).n)), (.string ((V.mk (5) (0) (⟨#[]⟩) ([⟨#[97]⟩]) ([V.mk (3) (0) (⟨#[97, 98]⟩) ([]) ([])])).t)), (.slice cn157_126a (((V.mk (5) (0) (⟨#[]⟩) ([⟨#[97]⟩]) ([V.mk (3) (0) (⟨#[97, 98]⟩) ([]) ([])])).ns).length) cn157_126c), (.slice ci157_126a (((V.mk (5) (0) (⟨#[]⟩) ([⟨#[97]⟩]) ([V.mk (3) (0) (⟨#[97, 98]⟩) ([]) ([])])).xs).length) ci157_126c)] 33 := own_b11_126
     replace own_b6_37 := own_store own_b6_37 hs ne_b6_37_b11_126
     replace own_b8_116 := own_store own_b8_116 hs ne_b8_116_b11_126
     replace own_b10_122 := own_store own_b10_122 hs ne_b10_122_b11_126
     replace own_b9_122 := own_store own_b9_122 hs ne_b9_122_b11_126
     replace D_cn157_126 := sf_store D_cn157_126 hs (by simp)
     replace D_ci157_126 := sf_store D_ci157_126 hs (by simp)
     replace kw := keeps_store kw hs lo_b11_126
     clear hs
     refine tail_nil (hK125 _ _ ?_)
     refine wp_seq_k fun K128 hK128 => ?_
     refine rg mixed y126 zz126 ?_
     refine .i (v := (.agg #[(.int .u8 (5)), (.int .i64 (0)), (.string (⟨#[]⟩)), (.slice none 0 0), (.slice none 0 0)])) (sp_build (vs := [(0, (.int .u8 (5)))]) Try.underlying33 z33 (pl33 Try.underlying33) ⟨rfl, Has.cst, trivial⟩ rfl) ?_
     refine .alloc z33 ?_
     refine .done ⟨by kernel_rfl, fun a129 g W129 y129 zz129 hk hg hV hR hP => ?_⟩
     obtain ⟨⟨b12_129, e12, hb12, own_b12_129⟩, e158, -⟩ := hV
     have lo_b12_129 : w.heap.size ≤ b12_129 := Nat.le_trans kw.size (hg.lo _ _ hb12)
     have ne_b6_37_b12_129 : b6_37 ≠ b12_129 := Nat.ne_of_lt (Nat.lt_of_lt_of_le own_b6_37.lt (hg.lo _ _ hb12))
     have ne_b8_116_b12_129 : b8_116 ≠ b12_129 := Nat.ne_of_lt (Nat.lt_of_lt_of_le own_b8_116.lt (hg.lo _ _ hb12))
     have ne_b10_122_b12_129 : b10_122 ≠ b12_129 := Nat.ne_of_lt (Nat.lt_of_lt_of_le own_b10_122.lt (hg.lo _ _ hb12))
     have ne_b9_122_b12_129 : b9_122 ≠ b12_129 := Nat.ne_of_lt (Nat.lt_of_lt_of_le own_b9_122.lt (hg.lo _ _ hb12))
     have ne_b11_126_b12_129 : b11_126 ≠ b12_129 := Nat.ne_of_lt (Nat.lt_of_lt_of_le own_b11_126.lt (hg.lo _ _ hb12))
     have own_b12_129 : Own W129 b12_129 [(.int .u8 (0)), (.int .i64 (0)), (.string (⟨#[]⟩)), (.slice none 0 0), (.slice none 0 0)] 33 := own_b12_129
     replace e10 := (hR 10 rfl).trans e10
     replace e9 := (hR 9 rfl).trans e9
     replace e11 := (hR 11 rfl).trans e11
     replace D_cn157_126 := sf_more D_cn157_126 hk [b12_129] (in_cons (hg.lo _ _ hb12) in_nil)
     replace D_ci157_126 := sf_more D_ci157_126 hk [b12_129] (in_cons (hg.lo _ _ hb12) in_nil)
     replace e158 := e158.q
     replace own_b6_37 := own_b6_37.ext hk
     replace own_b8_116 := own_b8_116.ext hk
     replace own_b10_122 := own_b10_122.ext hk
     replace own_b9_122 := own_b9_122.ext hk
     replace own_b11_126 := own_b11_126.ext hk
     replace kw := kw.x hk
     clear hR hk hg hP hb12
     refine tail_store (b := b12_129) (o := 0) (v := (.agg #[(.int .u8 (5)), (.int .i64 (0)), (.string (⟨#[]⟩)), (.slice none 0 0), (.slice none 0 0)])) e12 e158 sz33 rfl own_b12_129 (lbr rfl) (all_cons rfl (all_cons rfl (all_cons rfl (all_cons rfl (all_cons rfl all_nil))))) (fun W130 hs own_b12_129 => ?_)
     have own_b12_129 : Own W130 b12_129 [(.int .u8 (5)), (.int .i64 (0)), (.string (⟨#[]⟩)), (.slice none 0 0), (.slice none 0 0)] 33 := own_b12_129
     replace own_b6_37 := own_store own_b6_37 hs ne_b6_37_b12_129
     replace own_b8_116 := own_store own_b8_116 hs ne_b8_116_b12_129
     replace own_b10_122 := own_store own_b10_122 hs ne_b10_122_b12_129
     replace own_b9_122 := own_store own_b9_122 hs ne_b9_122_b12_129
     replace own_b11_126 := own_store own_b11_126 hs ne_b11_126_b12_129
     replace D_cn157_126 := sf_store D_cn157_126 hs (by simp)
     replace D_ci157_126 := sf_store D_ci157_126 hs (by simp)
     replace kw := keeps_store kw hs lo_b12_129
     clear hs
     refine tail_nil (hK128 _ _ ?_)
     refine wp_seq_k fun K131 hK131 => ?_
     refine wp_seq_k fun K132 hK132 => ?_
     refine rg mixed y129 zz129 ?_
     refine .i (v := (.agg #[(.int .u8 (0)), (.int .i64 (0)), (.string (⟨#[]⟩)), (.slice none 0 0), (.slice none 0 0)])) (sp_build (vs := []) Try.underlying33 z33 (pl33 Try.underlying33) trivial rfl) ?_
     refine .i (v := (.agg #[(.int .u8 (0)), (.int .i64 (0)), (.string (⟨#[]⟩)), (.slice none 0 0), (.slice none 0 0), (.int .i64 (3))])) (sp_build (vs := [(0, (.agg #[(.int .u8 (0)), (.int .i64 (0)), (.string (⟨#[]⟩)), (.slice none 0 0), (.slice none 0 0)])), (1, (.int .i64 (3)))]) Try.underlying118 z118 (pl118 Try.underlying118) ⟨rfl, (hlc rfl), rfl, Has.cst, trivial⟩ (by kernel_rfl)) ?_
     refine .i (v := (.agg #[(.int .u8 (2)), (.int .i64 (1)), (.string (⟨#[]⟩)), (.slice none 0 0), (.slice none 0 0)])) (loA (hbs rfl e9) own_b9_122 trivial agg33 sz33 rfl rfl) ?_
     refine .i (v := (.agg #[(.int .u8 (2)), (.int .i64 (1)), (.string (⟨#[]⟩)), (.slice none 0 0), (.slice none 0 0), (.int .i64 (10))])) (sp_build (vs := [(0, (.agg #[(.int .u8 (2)), (.int .i64 (1)), (.string (⟨#[]⟩)), (.slice none 0 0), (.slice none 0 0)])), (1, (.int .i64 (10)))]) Try.underlying118 z118 (pl118 Try.underlying118) ⟨rfl, (hlc rfl), rfl, Has.cst, trivial⟩ (by kernel_rfl)) ?_
     refine .i (v := (.agg #[(.int .u8 (5)), (.int .i64 (0)), (.string (⟨#[]⟩)), (.slice none 0 0), (.slice none 0 0)])) (loA (hbs rfl e12) own_b12_129 trivial agg33 sz33 rfl rfl) ?_
     refine .i (v := (.agg #[(.int .u8 (5)), (.int .i64 (0)), (.string (⟨#[]⟩)), (.slice none 0 0), (.slice none 0 0), (.int .i64 (6))])) (sp_build (vs := [(0, (.agg #[(.int .u8 (5)), (.int .i64 (0)), (.string (⟨#[]⟩)), (.slice none 0 0), (.slice none 0 0)])), (1, (.int .i64 (6)))]) Try.underlying118 z118 (pl118 Try.underlying118) ⟨rfl, (hlc rfl), rfl, Has.cst, trivial⟩ (by kernel_rfl)) ?_
     refine .da (X := SF w [b12_129, b11_126, b10_122, b9_122, b8_116, b6_37]) (e := strsD ([sLength])) (sp_bsl (ds := [D.str sLength]) Try.underlying23 sz9 z9 (lbr rfl) (lbr rfl) ⟨rfl, (Has.cst.str (lbr rfl)), trivial⟩ rfl (by simp [width]) (fr_sf kw (in_cons own_b12_129.lt (in_cons own_b11_126.lt (in_cons own_b10_122.lt (in_cons own_b9_122.lt (in_cons own_b8_116.lt (in_cons own_b6_37.lt in_nil)))))))) ?_
     refine .i (v := (.agg #[(.int .u8 (2)), (.int .i64 (1)), (.string (⟨#[]⟩)), (.slice none 0 0), (.slice none 0 0)])) (loA (hbs rfl e9) own_b9_122 trivial agg33 sz33 rfl rfl) ?_
     refine .da (X := SF w [b12_129, b11_126, b10_122, b9_122, b8_116, b6_37]) (e := valsD ([V.mk (2) (1) (⟨#[]⟩) ([]) ([])])) (sp_bsl (ds := [V.d (V.mk (2) (1) (⟨#[]⟩) ([]) ([]))]) Try.underlying31 sz33 z33 (lbr rfl) (lbr rfl) ⟨rfl, ((hlc rfl).dat (rdV_mk (lbr rfl) (rd_nil _) (rd_nil _) : Rd W130 (SF w [b12_129, b11_126, b10_122, b9_122, b8_116, b6_37]) (V.d (V.mk (2) (1) (⟨#[]⟩) ([]) ([]))) _) sub_all), trivial⟩ rfl (by intro e he; simp at he; rcases he with rfl <;> exact width_V _) (fr_sf kw (in_cons own_b12_129.lt (in_cons own_b11_126.lt (in_cons own_b10_122.lt (in_cons own_b9_122.lt (in_cons own_b8_116.lt (in_cons own_b6_37.lt in_nil)))))))) ?_
     refine .da (X := SF w [b12_129, b11_126, b10_122, b9_122, b8_116, b6_37]) (e := V.d (V.mk 5 0 ⟨#[]⟩ ([sLength]) ([V.mk (2) (1) (⟨#[]⟩) ([]) ([])]))) (sp_call2 (φ1 := IsD (SF w [b12_129, b11_126, b10_122, b9_122, b8_116, b6_37]) (strsD ([sLength]))) (φ2 := IsD (SF w [b12_129, b11_126, b10_122, b9_122, b8_116, b6_37]) (valsD ([V.mk (2) (1) (⟨#[]⟩) ([]) ([])]))) ent71 (hlc rfl) (hlc rfl) (fun g u1 u2 W hk hgk h1 h2 => (obj21_ok ([sLength]) ([V.mk (2) (1) (⟨#[]⟩) ([]) ([])]) W _ _ _ h1 h2).mono (ret_arF kw (in_cons own_b12_129.lt (in_cons own_b11_126.lt (in_cons own_b10_122.lt (in_cons own_b9_122.lt (in_cons own_b8_116.lt (in_cons own_b6_37.lt in_nil)))))) hk hgk))) ?_
     refine .da (X := SF w [b12_129, b11_126, b10_122, b9_122, b8_116, b6_37]) (e := Ro.d (Ro.mk (V.mk 5 0 ⟨#[]⟩ ([sLength]) ([V.mk (2) (1) (⟨#[]⟩) ([]) ([])])) (6))) (sp_buildD (zd := [V.d V.zero, D.int .i64 0]) (es := [(0, V.d (V.mk 5 0 ⟨#[]⟩ ([sLength]) ([V.mk (2) (1) (⟨#[]⟩) ([]) ([])]))), (1, D.int .i64 (6))]) Try.underlying118 z118 (pl118 Try.underlying118) ⟨rfl, (hlc rfl), ⟨rfl, Has.cst.int, trivial⟩⟩ zRo (by first | rfl | simp [plOf, width, width_V, hssD]) (by simp [fits, width, strsD, valsD, hssD, width_V]) rfl) ?_
     refine .da (X := SF w [b12_129, b11_126, b10_122, b9_122, b8_116, b6_37]) (e := strsD ([sHashes])) (sp_bsl (ds := [D.str sHashes]) Try.underlying23 sz9 z9 (lbr rfl) (lbr rfl) ⟨rfl, (Has.cst.str (lbr rfl)), trivial⟩ rfl (by simp [width]) (fr_sf kw (in_cons own_b12_129.lt (in_cons own_b11_126.lt (in_cons own_b10_122.lt (in_cons own_b9_122.lt (in_cons own_b8_116.lt (in_cons own_b6_37.lt in_nil)))))))) ?_
     refine .i (v := (.agg #[(.int .u8 ((V.mk (5) (0) (⟨#[]⟩) ([⟨#[97]⟩]) ([V.mk (3) (0) (⟨#[97, 98]⟩) ([]) ([])])).k)), (.int .i64 ((V.mk (5) (0) (⟨#[]⟩) ([⟨#[97]⟩]) ([V.mk (3) (0) (⟨#[97, 98]⟩) ([]) ([])])).n)), (.string ((V.mk (5) (0) (⟨#[]⟩) ([⟨#[97]⟩]) ([V.mk (3) (0) (⟨#[97, 98]⟩) ([]) ([])])).t)), (.slice cn157_126a (((V.mk (5) (0) (⟨#[]⟩) ([⟨#[97]⟩]) ([V.mk (3) (0) (⟨#[97, 98]⟩) ([]) ([])])).ns).length) cn157_126c), (.slice ci157_126a (((V.mk (5) (0) (⟨#[]⟩) ([⟨#[97]⟩]) ([V.mk (3) (0) (⟨#[97, 98]⟩) ([]) ([])])).xs).length) ci157_126c)])) (loA (hbs rfl e11) own_b11_126 trivial agg33 sz33 rfl rfl) ?_
     refine .da (X := SF w [b12_129, b11_126, b10_122, b9_122, b8_116, b6_37]) (e := valsD ([(V.mk (5) (0) (⟨#[]⟩) ([⟨#[97]⟩]) ([V.mk (3) (0) (⟨#[97, 98]⟩) ([]) ([])]))])) (sp_bsl (ds := [V.d ((V.mk (5) (0) (⟨#[]⟩) ([⟨#[97]⟩]) ([V.mk (3) (0) (⟨#[97, 98]⟩) ([]) ([])])))]) Try.underlying31 sz33 z33 (lbr rfl) (lbr rfl) ⟨rfl, ((hlc rfl).dat (rdV_in (x := (V.mk (5) (0) (⟨#[]⟩) ([⟨#[97]⟩]) ([V.mk (3) (0) (⟨#[97, 98]⟩) ([]) ([])]))) ht_v157_126 D_cn157_126 D_ci157_126 : Rd W130 (SF w [b12_129, b11_126, b10_122, b9_122, b8_116, b6_37]) (V.d ((V.mk (5) (0) (⟨#[]⟩) ([⟨#[97]⟩]) ([V.mk (3) (0) (⟨#[97, 98]⟩) ([]) ([])])))) _) sub_all), trivial⟩ rfl (by intro e he; simp at he; rcases he with rfl <;> exact width_V _) (fr_sf kw (in_cons own_b12_129.lt (in_cons own_b11_126.lt (in_cons own_b10_122.lt (in_cons own_b9_122.lt (in_cons own_b8_116.lt (in_cons own_b6_37.lt in_nil)))))))) ?_
     refine .da (X := SF w [b12_129, b11_126, b10_122, b9_122, b8_116, b6_37]) (e := V.d (V.mk 5 0 ⟨#[]⟩ ([sHashes]) ([(V.mk (5) (0) (⟨#[]⟩) ([⟨#[97]⟩]) ([V.mk (3) (0) (⟨#[97, 98]⟩) ([]) ([])]))]))) (sp_call2 (φ1 := IsD (SF w [b12_129, b11_126, b10_122, b9_122, b8_116, b6_37]) (strsD ([sHashes]))) (φ2 := IsD (SF w [b12_129, b11_126, b10_122, b9_122, b8_116, b6_37]) (valsD ([(V.mk (5) (0) (⟨#[]⟩) ([⟨#[97]⟩]) ([V.mk (3) (0) (⟨#[97, 98]⟩) ([]) ([])]))]))) ent71 (hlc rfl) (hlc rfl) (fun g u1 u2 W hk hgk h1 h2 => (obj21_ok ([sHashes]) ([(V.mk (5) (0) (⟨#[]⟩) ([⟨#[97]⟩]) ([V.mk (3) (0) (⟨#[97, 98]⟩) ([]) ([])]))]) W _ _ _ h1 h2).mono (ret_arF kw (in_cons own_b12_129.lt (in_cons own_b11_126.lt (in_cons own_b10_122.lt (in_cons own_b9_122.lt (in_cons own_b8_116.lt (in_cons own_b6_37.lt in_nil)))))) hk hgk))) ?_
     refine .da (X := SF w [b12_129, b11_126, b10_122, b9_122, b8_116, b6_37]) (e := Ro.d (Ro.mk (V.mk 5 0 ⟨#[]⟩ ([sHashes]) ([(V.mk (5) (0) (⟨#[]⟩) ([⟨#[97]⟩]) ([V.mk (3) (0) (⟨#[97, 98]⟩) ([]) ([])]))])) (6))) (sp_buildD (zd := [V.d V.zero, D.int .i64 0]) (es := [(0, V.d (V.mk 5 0 ⟨#[]⟩ ([sHashes]) ([(V.mk (5) (0) (⟨#[]⟩) ([⟨#[97]⟩]) ([V.mk (3) (0) (⟨#[97, 98]⟩) ([]) ([])]))]))), (1, D.int .i64 (6))]) Try.underlying118 z118 (pl118 Try.underlying118) ⟨rfl, (hlc rfl), ⟨rfl, Has.cst.int, trivial⟩⟩ zRo (by first | rfl | simp [plOf, width, width_V, hssD]) (by simp [fits, width, strsD, valsD, hssD, width_V]) rfl) ?_
     refine .da (X := SF w [b12_129, b11_126, b10_122, b9_122, b8_116, b6_37]) (e := strsD ([sHashes, sLength])) (sp_bsl (ds := [D.str sHashes, D.str sLength]) Try.underlying23 sz9 z9 (lbr rfl) (lbr rfl) ⟨rfl, (Has.cst.str (lbr rfl)), ⟨rfl, (Has.cst.str (lbr rfl)), trivial⟩⟩ rfl (by simp [width]) (fr_sf kw (in_cons own_b12_129.lt (in_cons own_b11_126.lt (in_cons own_b10_122.lt (in_cons own_b9_122.lt (in_cons own_b8_116.lt (in_cons own_b6_37.lt in_nil)))))))) ?_
     refine .i (v := (.agg #[(.int .u8 ((V.mk (5) (0) (⟨#[]⟩) ([⟨#[97]⟩]) ([V.mk (3) (0) (⟨#[97, 98]⟩) ([]) ([])])).k)), (.int .i64 ((V.mk (5) (0) (⟨#[]⟩) ([⟨#[97]⟩]) ([V.mk (3) (0) (⟨#[97, 98]⟩) ([]) ([])])).n)), (.string ((V.mk (5) (0) (⟨#[]⟩) ([⟨#[97]⟩]) ([V.mk (3) (0) (⟨#[97, 98]⟩) ([]) ([])])).t)), (.slice cn157_126a (((V.mk (5) (0) (⟨#[]⟩) ([⟨#[97]⟩]) ([V.mk (3) (0) (⟨#[97, 98]⟩) ([]) ([])])).ns).length) cn157_126c), (.slice ci157_126a (((V.mk (5) (0) (⟨#[]⟩) ([⟨#[97]⟩]) ([V.mk (3) (0) (⟨#[97, 98]⟩) ([]) ([])])).xs).length) ci157_126c)])) (loA (hbs rfl e11) own_b11_126 trivial agg33 sz33 rfl rfl) ?_
     refine .i (v := (.agg #[(.int .u8 (2)), (.int .i64 (1)), (.string (⟨#[]⟩)), (.slice none 0 0), (.slice none 0 0)])) (loA (hbs rfl e9) own_b9_122 trivial agg33 sz33 rfl rfl) ?_
     refine .da (X := SF w [b12_129, b11_126, b10_122, b9_122, b8_116, b6_37]) (e := valsD ([(V.mk (5) (0) (⟨#[]⟩) ([⟨#[97]⟩]) ([V.mk (3) (0) (⟨#[97, 98]⟩) ([]) ([])])), V.mk (2) (1) (⟨#[]⟩) ([]) ([])])) (sp_bsl (ds := [V.d ((V.mk (5) (0) (⟨#[]⟩) ([⟨#[97]⟩]) ([V.mk (3) (0) (⟨#[97, 98]⟩) ([]) ([])]))), V.d (V.mk (2) (1) (⟨#[]⟩) ([]) ([]))]) Try.underlying31 sz33 z33 (lbr rfl) (lbr rfl) ⟨rfl, ((hlc rfl).dat (rdV_in (x := (V.mk (5) (0) (⟨#[]⟩) ([⟨#[97]⟩]) ([V.mk (3) (0) (⟨#[97, 98]⟩) ([]) ([])]))) ht_v157_126 D_cn157_126 D_ci157_126 : Rd W130 (SF w [b12_129, b11_126, b10_122, b9_122, b8_116, b6_37]) (V.d ((V.mk (5) (0) (⟨#[]⟩) ([⟨#[97]⟩]) ([V.mk (3) (0) (⟨#[97, 98]⟩) ([]) ([])])))) _) sub_all), ⟨rfl, ((hlc rfl).dat (rdV_mk (lbr rfl) (rd_nil _) (rd_nil _) : Rd W130 (SF w [b12_129, b11_126, b10_122, b9_122, b8_116, b6_37]) (V.d (V.mk (2) (1) (⟨#[]⟩) ([]) ([]))) _) sub_all), trivial⟩⟩ rfl (by intro e he; simp at he; rcases he with rfl | rfl <;> exact width_V _) (fr_sf kw (in_cons own_b12_129.lt (in_cons own_b11_126.lt (in_cons own_b10_122.lt (in_cons own_b9_122.lt (in_cons own_b8_116.lt (in_cons own_b6_37.lt in_nil)))))))) ?_
     refine .da (X := SF w [b12_129, b11_126, b10_122, b9_122, b8_116, b6_37]) (e := V.d (V.mk 5 0 ⟨#[]⟩ ([sHashes, sLength]) ([(V.mk (5) (0) (⟨#[]⟩) ([⟨#[97]⟩]) ([V.mk (3) (0) (⟨#[97, 98]⟩) ([]) ([])])), V.mk (2) (1) (⟨#[]⟩) ([]) ([])]))) (sp_call2 (φ1 := IsD (SF w [b12_129, b11_126, b10_122, b9_122, b8_116, b6_37]) (strsD ([sHashes, sLength]))) (φ2 := IsD (SF w [b12_129, b11_126, b10_122, b9_122, b8_116, b6_37]) (valsD ([(V.mk (5) (0) (⟨#[]⟩) ([⟨#[97]⟩]) ([V.mk (3) (0) (⟨#[97, 98]⟩) ([]) ([])])), V.mk (2) (1) (⟨#[]⟩) ([]) ([])]))) ent71 (hlc rfl) (hlc rfl) (fun g u1 u2 W hk hgk h1 h2 => (obj21_ok ([sHashes, sLength]) ([(V.mk (5) (0) (⟨#[]⟩) ([⟨#[97]⟩]) ([V.mk (3) (0) (⟨#[97, 98]⟩) ([]) ([])])), V.mk (2) (1) (⟨#[]⟩) ([]) ([])]) W _ _ _ h1 h2).mono (ret_arF kw (in_cons own_b12_129.lt (in_cons own_b11_126.lt (in_cons own_b10_122.lt (in_cons own_b9_122.lt (in_cons own_b8_116.lt (in_cons own_b6_37.lt in_nil)))))) hk hgk))) ?_
     refine .da (X := SF w [b12_129, b11_126, b10_122, b9_122, b8_116, b6_37]) (e := Ro.d (Ro.mk (V.mk 5 0 ⟨#[]⟩ ([sHashes, sLength]) ([(V.mk (5) (0) (⟨#[]⟩) ([⟨#[97]⟩]) ([V.mk (3) (0) (⟨#[97, 98]⟩) ([]) ([])])), V.mk (2) (1) (⟨#[]⟩) ([]) ([])])) (0))) (sp_buildD (zd := [V.d V.zero, D.int .i64 0]) (es := [(0, V.d (V.mk 5 0 ⟨#[]⟩ ([sHashes, sLength]) ([(V.mk (5) (0) (⟨#[]⟩) ([⟨#[97]⟩]) ([V.mk (3) (0) (⟨#[97, 98]⟩) ([]) ([])])), V.mk (2) (1) (⟨#[]⟩) ([]) ([])]))), (1, D.int .i64 (0))]) Try.underlying118 z118 (pl118 Try.underlying118) ⟨rfl, (hlc rfl), ⟨rfl, Has.cst.int, trivial⟩⟩ zRo (by first | rfl | simp [plOf, width, width_V, hssD]) (by simp [fits, width, strsD, valsD, hssD, width_V]) rfl) ?_
     refine .da (X := SF w [b12_129, b11_126, b10_122, b9_122, b8_116, b6_37]) (e := strsD ([sHashes, sLength])) (sp_bsl (ds := [D.str sHashes, D.str sLength]) Try.underlying23 sz9 z9 (lbr rfl) (lbr rfl) ⟨rfl, (Has.cst.str (lbr rfl)), ⟨rfl, (Has.cst.str (lbr rfl)), trivial⟩⟩ rfl (by simp [width]) (fr_sf kw (in_cons own_b12_129.lt (in_cons own_b11_126.lt (in_cons own_b10_122.lt (in_cons own_b9_122.lt (in_cons own_b8_116.lt (in_cons own_b6_37.lt in_nil)))))))) ?_
     refine .i (v := (.agg #[(.int .u8 ((V.mk (5) (0) (⟨#[]⟩) ([⟨#[97]⟩]) ([V.mk (3) (0) (⟨#[97, 98]⟩) ([]) ([])])).k)), (.int .i64 ((V.mk (5) (0) (⟨#[]⟩) ([⟨#[97]⟩]) ([V.mk (3) (0) (⟨#[97, 98]⟩) ([]) ([])])).n)), (.string ((V.mk (5) (0) (⟨#[]⟩) ([⟨#[97]⟩]) ([V.mk (3) (0) (⟨#[97, 98]⟩) ([]) ([])])).t)), (.slice cn157_126a (((V.mk (5) (0) (⟨#[]⟩) ([⟨#[97]⟩]) ([V.mk (3) (0) (⟨#[97, 98]⟩) ([]) ([])])).ns).length) cn157_126c), (.slice ci157_126a (((V.mk (5) (0) (⟨#[]⟩) ([⟨#[97]⟩]) ([V.mk (3) (0) (⟨#[97, 98]⟩) ([]) ([])])).xs).length) ci157_126c)])) (loA (hbs rfl e11) own_b11_126 trivial agg33 sz33 rfl rfl) ?_
     refine .i (v := (.agg #[(.int .u8 (3)), (.int .i64 (0)), (.string (⟨#[97, 98]⟩)), (.slice none 0 0), (.slice none 0 0)])) (loA (hbs rfl e10) own_b10_122 trivial agg33 sz33 rfl rfl) ?_
     refine .da (X := SF w [b12_129, b11_126, b10_122, b9_122, b8_116, b6_37]) (e := valsD ([(V.mk (5) (0) (⟨#[]⟩) ([⟨#[97]⟩]) ([V.mk (3) (0) (⟨#[97, 98]⟩) ([]) ([])])), V.mk (3) (0) (⟨#[97, 98]⟩) ([]) ([])])) (sp_bsl (ds := [V.d ((V.mk (5) (0) (⟨#[]⟩) ([⟨#[97]⟩]) ([V.mk (3) (0) (⟨#[97, 98]⟩) ([]) ([])]))), V.d (V.mk (3) (0) (⟨#[97, 98]⟩) ([]) ([]))]) Try.underlying31 sz33 z33 (lbr rfl) (lbr rfl) ⟨rfl, ((hlc rfl).dat (rdV_in (x := (V.mk (5) (0) (⟨#[]⟩) ([⟨#[97]⟩]) ([V.mk (3) (0) (⟨#[97, 98]⟩) ([]) ([])]))) ht_v157_126 D_cn157_126 D_ci157_126 : Rd W130 (SF w [b12_129, b11_126, b10_122, b9_122, b8_116, b6_37]) (V.d ((V.mk (5) (0) (⟨#[]⟩) ([⟨#[97]⟩]) ([V.mk (3) (0) (⟨#[97, 98]⟩) ([]) ([])])))) _) sub_all), ⟨rfl, ((hlc rfl).dat (rdV_mk (lbr rfl) (rd_nil _) (rd_nil _) : Rd W130 (SF w [b12_129, b11_126, b10_122, b9_122, b8_116, b6_37]) (V.d (V.mk (3) (0) (⟨#[97, 98]⟩) ([]) ([]))) _) sub_all), trivial⟩⟩ rfl (by intro e he; simp at he; rcases he with rfl | rfl <;> exact width_V _) (fr_sf kw (in_cons own_b12_129.lt (in_cons own_b11_126.lt (in_cons own_b10_122.lt (in_cons own_b9_122.lt (in_cons own_b8_116.lt (in_cons own_b6_37.lt in_nil)))))))) ?_
     refine .da (X := SF w [b12_129, b11_126, b10_122, b9_122, b8_116, b6_37]) (e := V.d (V.mk 5 0 ⟨#[]⟩ ([sHashes, sLength]) ([(V.mk (5) (0) (⟨#[]⟩) ([⟨#[97]⟩]) ([V.mk (3) (0) (⟨#[97, 98]⟩) ([]) ([])])), V.mk (3) (0) (⟨#[97, 98]⟩) ([]) ([])]))) (sp_call2 (φ1 := IsD (SF w [b12_129, b11_126, b10_122, b9_122, b8_116, b6_37]) (strsD ([sHashes, sLength]))) (φ2 := IsD (SF w [b12_129, b11_126, b10_122, b9_122, b8_116, b6_37]) (valsD ([(V.mk (5) (0) (⟨#[]⟩) ([⟨#[97]⟩]) ([V.mk (3) (0) (⟨#[97, 98]⟩) ([]) ([])])), V.mk (3) (0) (⟨#[97, 98]⟩) ([]) ([])]))) ent71 (hlc rfl) (hlc rfl) (fun g u1 u2 W hk hgk h1 h2 => (obj21_ok ([sHashes, sLength]) ([(V.mk (5) (0) (⟨#[]⟩) ([⟨#[97]⟩]) ([V.mk (3) (0) (⟨#[97, 98]⟩) ([]) ([])])), V.mk (3) (0) (⟨#[97, 98]⟩) ([]) ([])]) W _ _ _ h1 h2).mono (ret_arF kw (in_cons own_b12_129.lt (in_cons own_b11_126.lt (in_cons own_b10_122.lt (in_cons own_b9_122.lt (in_cons own_b8_116.lt (in_cons own_b6_37.lt in_nil)))))) hk hgk))) ?_
     refine .da (X := SF w [b12_129, b11_126, b10_122, b9_122, b8_116, b6_37]) (e := Ro.d (Ro.mk (V.mk 5 0 ⟨#[]⟩ ([sHashes, sLength]) ([(V.mk (5) (0) (⟨#[]⟩) ([⟨#[97]⟩]) ([V.mk (3) (0) (⟨#[97, 98]⟩) ([]) ([])])), V.mk (3) (0) (⟨#[97, 98]⟩) ([]) ([])])) (10))) (sp_buildD (zd := [V.d V.zero, D.int .i64 0]) (es := [(0, V.d (V.mk 5 0 ⟨#[]⟩ ([sHashes, sLength]) ([(V.mk (5) (0) (⟨#[]⟩) ([⟨#[97]⟩]) ([V.mk (3) (0) (⟨#[97, 98]⟩) ([]) ([])])), V.mk (3) (0) (⟨#[97, 98]⟩) ([]) ([])]))), (1, D.int .i64 (10))]) Try.underlying118 z118 (pl118 Try.underlying118) ⟨rfl, (hlc rfl), ⟨rfl, Has.cst.int, trivial⟩⟩ zRo (by first | rfl | simp [plOf, width, width_V, hssD]) (by simp [fits, width, strsD, valsD, hssD, width_V]) rfl) ?_
     refine .da (X := SF w [b12_129, b11_126, b10_122, b9_122, b8_116, b6_37]) (e := strsD ([sHashes, sLength])) (sp_bsl (ds := [D.str sHashes, D.str sLength]) Try.underlying23 sz9 z9 (lbr rfl) (lbr rfl) ⟨rfl, (Has.cst.str (lbr rfl)), ⟨rfl, (Has.cst.str (lbr rfl)), trivial⟩⟩ rfl (by simp [width]) (fr_sf kw (in_cons own_b12_129.lt (in_cons own_b11_126.lt (in_cons own_b10_122.lt (in_cons own_b9_122.lt (in_cons own_b8_116.lt (in_cons own_b6_37.lt in_nil)))))))) ?_
     refine .i (v := (.agg #[(.int .u8 ((V.mk (5) (0) (⟨#[]⟩) ([⟨#[97]⟩]) ([V.mk (3) (0) (⟨#[97, 98]⟩) ([]) ([])])).k)), (.int .i64 ((V.mk (5) (0) (⟨#[]⟩) ([⟨#[97]⟩]) ([V.mk (3) (0) (⟨#[97, 98]⟩) ([]) ([])])).n)), (.string ((V.mk (5) (0) (⟨#[]⟩) ([⟨#[97]⟩]) ([V.mk (3) (0) (⟨#[97, 98]⟩) ([]) ([])])).t)), (.slice cn157_126a (((V.mk (5) (0) (⟨#[]⟩) ([⟨#[97]⟩]) ([V.mk (3) (0) (⟨#[97, 98]⟩) ([]) ([])])).ns).length) cn157_126c), (.slice ci157_126a (((V.mk (5) (0) (⟨#[]⟩) ([⟨#[97]⟩]) ([V.mk (3) (0) (⟨#[97, 98]⟩) ([]) ([])])).xs).length) ci157_126c)])) (loA (hbs rfl e11) own_b11_126 trivial agg33 sz33 rfl rfl) ?_
     refine .i (v := (.agg #[(.int .u8 (2)), (.int .i64 (-1)), (.string (⟨#[]⟩)), (.slice none 0 0), (.slice none 0 0)])) (sp_build (vs := [(0, (.int .u8 (2))), (1, (.int .i64 (-1)))]) Try.underlying33 z33 (pl33 Try.underlying33) ⟨rfl, Has.cst, rfl, Has.cst, trivial⟩ rfl) ?_
     refine .da (X := SF w [b12_129, b11_126, b10_122, b9_122, b8_116, b6_37]) (e := valsD ([(V.mk (5) (0) (⟨#[]⟩) ([⟨#[97]⟩]) ([V.mk (3) (0) (⟨#[97, 98]⟩) ([]) ([])])), V.mk (2) (-1) (⟨#[]⟩) ([]) ([])])) (sp_bsl (ds := [V.d ((V.mk (5) (0) (⟨#[]⟩) ([⟨#[97]⟩]) ([V.mk (3) (0) (⟨#[97, 98]⟩) ([]) ([])]))), V.d (V.mk (2) (-1) (⟨#[]⟩) ([]) ([]))]) Try.underlying31 sz33 z33 (lbr rfl) (lbr rfl) ⟨rfl, ((hlc rfl).dat (rdV_in (x := (V.mk (5) (0) (⟨#[]⟩) ([⟨#[97]⟩]) ([V.mk (3) (0) (⟨#[97, 98]⟩) ([]) ([])]))) ht_v157_126 D_cn157_126 D_ci157_126 : Rd W130 (SF w [b12_129, b11_126, b10_122, b9_122, b8_116, b6_37]) (V.d ((V.mk (5) (0) (⟨#[]⟩) ([⟨#[97]⟩]) ([V.mk (3) (0) (⟨#[97, 98]⟩) ([]) ([])])))) _) sub_all), ⟨rfl, ((hlc rfl).dat (rdV_mk (lbr rfl) (rd_nil _) (rd_nil _) : Rd W130 (SF w [b12_129, b11_126, b10_122, b9_122, b8_116, b6_37]) (V.d (V.mk (2) (-1) (⟨#[]⟩) ([]) ([]))) _) sub_all), trivial⟩⟩ rfl (by intro e he; simp at he; rcases he with rfl | rfl <;> exact width_V _) (fr_sf kw (in_cons own_b12_129.lt (in_cons own_b11_126.lt (in_cons own_b10_122.lt (in_cons own_b9_122.lt (in_cons own_b8_116.lt (in_cons own_b6_37.lt in_nil)))))))) ?_
     refine .da (X := SF w [b12_129, b11_126, b10_122, b9_122, b8_116, b6_37]) (e := V.d (V.mk 5 0 ⟨#[]⟩ ([sHashes, sLength]) ([(V.mk (5) (0) (⟨#[]⟩) ([⟨#[97]⟩]) ([V.mk (3) (0) (⟨#[97, 98]⟩) ([]) ([])])), V.mk (2) (-1) (⟨#[]⟩) ([]) ([])]))) (sp_call2 (φ1 := IsD (SF w [b12_129, b11_126, b10_122, b9_122, b8_116, b6_37]) (strsD ([sHashes, sLength]))) (φ2 := IsD (SF w [b12_129, b11_126, b10_122, b9_122, b8_116, b6_37]) (valsD ([(V.mk (5) (0) (⟨#[]⟩) ([⟨#[97]⟩]) ([V.mk (3) (0) (⟨#[97, 98]⟩) ([]) ([])])), V.mk (2) (-1) (⟨#[]⟩) ([]) ([])]))) ent71 (hlc rfl) (hlc rfl) (fun g u1 u2 W hk hgk h1 h2 => (obj21_ok ([sHashes, sLength]) ([(V.mk (5) (0) (⟨#[]⟩) ([⟨#[97]⟩]) ([V.mk (3) (0) (⟨#[97, 98]⟩) ([]) ([])])), V.mk (2) (-1) (⟨#[]⟩) ([]) ([])]) W _ _ _ h1 h2).mono (ret_arF kw (in_cons own_b12_129.lt (in_cons own_b11_126.lt (in_cons own_b10_122.lt (in_cons own_b9_122.lt (in_cons own_b8_116.lt (in_cons own_b6_37.lt in_nil)))))) hk hgk))) ?_
     refine .da (X := SF w [b12_129, b11_126, b10_122, b9_122, b8_116, b6_37]) (e := Ro.d (Ro.mk (V.mk 5 0 ⟨#[]⟩ ([sHashes, sLength]) ([(V.mk (5) (0) (⟨#[]⟩) ([⟨#[97]⟩]) ([V.mk (3) (0) (⟨#[97, 98]⟩) ([]) ([])])), V.mk (2) (-1) (⟨#[]⟩) ([]) ([])])) (1))) (sp_buildD (zd := [V.d V.zero, D.int .i64 0]) (es := [(0, V.d (V.mk 5 0 ⟨#[]⟩ ([sHashes, sLength]) ([(V.mk (5) (0) (⟨#[]⟩) ([⟨#[97]⟩]) ([V.mk (3) (0) (⟨#[97, 98]⟩) ([]) ([])])), V.mk (2) (-1) (⟨#[]⟩) ([]) ([])]))), (1, D.int .i64 (1))]) Try.underlying118 z118 (pl118 Try.underlying118) ⟨rfl, (hlc rfl), ⟨rfl, Has.cst.int, trivial⟩⟩ zRo (by first | rfl | simp [plOf, width, width_V, hssD]) (by simp [fits, width, strsD, valsD, hssD, width_V]) rfl) ?_
     refine .da (X := SF w [b12_129, b11_126, b10_122, b9_122, b8_116, b6_37]) (e := strsD ([sHashes, sLength])) (sp_bsl (ds := [D.str sHashes, D.str sLength]) Try.underlying23 sz9 z9 (lbr rfl) (lbr rfl) ⟨rfl, (Has.cst.str (lbr rfl)), ⟨rfl, (Has.cst.str (lbr rfl)), trivial⟩⟩ rfl (by simp [width]) (fr_sf kw (in_cons own_b12_129.lt (in_cons own_b11_126.lt (in_cons own_b10_122.lt (in_cons own_b9_122.lt (in_cons own_b8_116.lt (in_cons own_b6_37.lt in_nil)))))))) ?_
     refine .i (v := (.agg #[(.int .u8 (5)), (.int .i64 (0)), (.string (⟨#[]⟩)), (.slice none 0 0), (.slice none 0 0)])) (loA (hbs rfl e12) own_b12_129 trivial agg33 sz33 rfl rfl) ?_
     refine .i (v := (.agg #[(.int .u8 (2)), (.int .i64 (1)), (.string (⟨#[]⟩)), (.slice none 0 0), (.slice none 0 0)])) (loA (hbs rfl e9) own_b9_122 trivial agg33 sz33 rfl rfl) ?_
     refine .da (X := SF w [b12_129, b11_126, b10_122, b9_122, b8_116, b6_37]) (e := valsD ([V.mk (5) (0) (⟨#[]⟩) ([]) ([]), V.mk (2) (1) (⟨#[]⟩) ([]) ([])])) (sp_bsl (ds := [V.d (V.mk (5) (0) (⟨#[]⟩) ([]) ([])), V.d (V.mk (2) (1) (⟨#[]⟩) ([]) ([]))]) Try.underlying31 sz33 z33 (lbr rfl) (lbr rfl) ⟨rfl, ((hlc rfl).dat (rdV_mk (lbr rfl) (rd_nil _) (rd_nil _) : Rd W130 (SF w [b12_129, b11_126, b10_122, b9_122, b8_116, b6_37]) (V.d (V.mk (5) (0) (⟨#[]⟩) ([]) ([]))) _) sub_all), ⟨rfl, ((hlc rfl).dat (rdV_mk (lbr rfl) (rd_nil _) (rd_nil _) : Rd W130 (SF w [b12_129, b11_126, b10_122, b9_122, b8_116, b6_37]) (V.d (V.mk (2) (1) (⟨#[]⟩) ([]) ([]))) _) sub_all), trivial⟩⟩ rfl (by intro e he; simp at he; rcases he with rfl | rfl <;> exact width_V _) (fr_sf kw (in_cons own_b12_129.lt (in_cons own_b11_126.lt (in_cons own_b10_122.lt (in_cons own_b9_122.lt (in_cons own_b8_116.lt (in_cons own_b6_37.lt in_nil)))))))) ?_
     refine .da (X := SF w [b12_129, b11_126, b10_122, b9_122, b8_116, b6_37]) (e := V.d (V.mk 5 0 ⟨#[]⟩ ([sHashes, sLength]) ([V.mk (5) (0) (⟨#[]⟩) ([]) ([]), V.mk (2) (1) (⟨#[]⟩) ([]) ([])]))) (sp_call2 (φ1 := IsD (SF w [b12_129, b11_126, b10_122, b9_122, b8_116, b6_37]) (strsD ([sHashes, sLength]))) (φ2 := IsD (SF w [b12_129, b11_126, b10_122, b9_122, b8_116, b6_37]) (valsD ([V.mk (5) (0) (⟨#[]⟩) ([]) ([]), V.mk (2) (1) (⟨#[]⟩) ([]) ([])]))) ent71 (hlc rfl) (hlc rfl) (fun g u1 u2 W hk hgk h1 h2 => (obj21_ok ([sHashes, sLength]) ([V.mk (5) (0) (⟨#[]⟩) ([]) ([]), V.mk (2) (1) (⟨#[]⟩) ([]) ([])]) W _ _ _ h1 h2).mono (ret_arF kw (in_cons own_b12_129.lt (in_cons own_b11_126.lt (in_cons own_b10_122.lt (in_cons own_b9_122.lt (in_cons own_b8_116.lt (in_cons own_b6_37.lt in_nil)))))) hk hgk))) ?_
     refine .da (X := SF w [b12_129, b11_126, b10_122, b9_122, b8_116, b6_37]) (e := Ro.d (Ro.mk (V.mk 5 0 ⟨#[]⟩ ([sHashes, sLength]) ([V.mk (5) (0) (⟨#[]⟩) ([]) ([]), V.mk (2) (1) (⟨#[]⟩) ([]) ([])])) (4))) (sp_buildD (zd := [V.d V.zero, D.int .i64 0]) (es := [(0, V.d (V.mk 5 0 ⟨#[]⟩ ([sHashes, sLength]) ([V.mk (5) (0) (⟨#[]⟩) ([]) ([]), V.mk (2) (1) (⟨#[]⟩) ([]) ([])]))), (1, D.int .i64 (4))]) Try.underlying118 z118 (pl118 Try.underlying118) ⟨rfl, (hlc rfl), ⟨rfl, Has.cst.int, trivial⟩⟩ zRo (by first | rfl | simp [plOf, width, width_V, hssD]) (by simp [fits, width, strsD, valsD, hssD, width_V]) rfl) ?_
     refine .da (X := SF w [b12_129, b11_126, b10_122, b9_122, b8_116, b6_37]) (e := strsD ([sHashes, sLength])) (sp_bsl (ds := [D.str sHashes, D.str sLength]) Try.underlying23 sz9 z9 (lbr rfl) (lbr rfl) ⟨rfl, (Has.cst.str (lbr rfl)), ⟨rfl, (Has.cst.str (lbr rfl)), trivial⟩⟩ rfl (by simp [width]) (fr_sf kw (in_cons own_b12_129.lt (in_cons own_b11_126.lt (in_cons own_b10_122.lt (in_cons own_b9_122.lt (in_cons own_b8_116.lt (in_cons own_b6_37.lt in_nil)))))))) ?_
     refine .i (v := (.agg #[(.int .u8 (2)), (.int .i64 (1)), (.string (⟨#[]⟩)), (.slice none 0 0), (.slice none 0 0)])) (loA (hbs rfl e9) own_b9_122 trivial agg33 sz33 rfl rfl) ?_
     refine .i (v := (.agg #[(.int .u8 (2)), (.int .i64 (1)), (.string (⟨#[]⟩)), (.slice none 0 0), (.slice none 0 0)])) (loA (hbs rfl e9) own_b9_122 trivial agg33 sz33 rfl rfl) ?_
     refine .da (X := SF w [b12_129, b11_126, b10_122, b9_122, b8_116, b6_37]) (e := valsD ([V.mk (2) (1) (⟨#[]⟩) ([]) ([]), V.mk (2) (1) (⟨#[]⟩) ([]) ([])])) (sp_bsl (ds := [V.d (V.mk (2) (1) (⟨#[]⟩) ([]) ([])), V.d (V.mk (2) (1) (⟨#[]⟩) ([]) ([]))]) Try.underlying31 sz33 z33 (lbr rfl) (lbr rfl) ⟨rfl, ((hlc rfl).dat (rdV_mk (lbr rfl) (rd_nil _) (rd_nil _) : Rd W130 (SF w [b12_129, b11_126, b10_122, b9_122, b8_116, b6_37]) (V.d (V.mk (2) (1) (⟨#[]⟩) ([]) ([]))) _) sub_all), ⟨rfl, ((hlc rfl).dat (rdV_mk (lbr rfl) (rd_nil _) (rd_nil _) : Rd W130 (SF w [b12_129, b11_126, b10_122, b9_122, b8_116, b6_37]) (V.d (V.mk (2) (1) (⟨#[]⟩) ([]) ([]))) _) sub_all), trivial⟩⟩ rfl (by intro e he; simp at he; rcases he with rfl | rfl <;> exact width_V _) (fr_sf kw (in_cons own_b12_129.lt (in_cons own_b11_126.lt (in_cons own_b10_122.lt (in_cons own_b9_122.lt (in_cons own_b8_116.lt (in_cons own_b6_37.lt in_nil)))))))) ?_
     refine .da (X := SF w [b12_129, b11_126, b10_122, b9_122, b8_116, b6_37]) (e := V.d (V.mk 5 0 ⟨#[]⟩ ([sHashes, sLength]) ([V.mk (2) (1) (⟨#[]⟩) ([]) ([]), V.mk (2) (1) (⟨#[]⟩) ([]) ([])]))) (sp_call2 (φ1 := IsD (SF w [b12_129, b11_126, b10_122, b9_122, b8_116, b6_37]) (strsD ([sHashes, sLength]))) (φ2 := IsD (SF w [b12_129, b11_126, b10_122, b9_122, b8_116, b6_37]) (valsD ([V.mk (2) (1) (⟨#[]⟩) ([]) ([]), V.mk (2) (1) (⟨#[]⟩) ([]) ([])]))) ent71 (hlc rfl) (hlc rfl) (fun g u1 u2 W hk hgk h1 h2 => (obj21_ok ([sHashes, sLength]) ([V.mk (2) (1) (⟨#[]⟩) ([]) ([]), V.mk (2) (1) (⟨#[]⟩) ([]) ([])]) W _ _ _ h1 h2).mono (ret_arF kw (in_cons own_b12_129.lt (in_cons own_b11_126.lt (in_cons own_b10_122.lt (in_cons own_b9_122.lt (in_cons own_b8_116.lt (in_cons own_b6_37.lt in_nil)))))) hk hgk))) ?_
     refine .da (X := SF w [b12_129, b11_126, b10_122, b9_122, b8_116, b6_37]) (e := Ro.d (Ro.mk (V.mk 5 0 ⟨#[]⟩ ([sHashes, sLength]) ([V.mk (2) (1) (⟨#[]⟩) ([]) ([]), V.mk (2) (1) (⟨#[]⟩) ([]) ([])])) (10))) (sp_buildD (zd := [V.d V.zero, D.int .i64 0]) (es := [(0, V.d (V.mk 5 0 ⟨#[]⟩ ([sHashes, sLength]) ([V.mk (2) (1) (⟨#[]⟩) ([]) ([]), V.mk (2) (1) (⟨#[]⟩) ([]) ([])]))), (1, D.int .i64 (10))]) Try.underlying118 z118 (pl118 Try.underlying118) ⟨rfl, (hlc rfl), ⟨rfl, Has.cst.int, trivial⟩⟩ zRo (by first | rfl | simp [plOf, width, width_V, hssD]) (by simp [fits, width, strsD, valsD, hssD, width_V]) rfl) ?_
     refine .da (X := SF w [b12_129, b11_126, b10_122, b9_122, b8_116, b6_37]) (e := strsD ([sCustom, sHashes, sLength])) (sp_bsl (ds := [D.str sCustom, D.str sHashes, D.str sLength]) Try.underlying23 sz9 z9 (lbr rfl) (lbr rfl) ⟨rfl, (Has.cst.str (lbr rfl)), ⟨rfl, (Has.cst.str (lbr rfl)), ⟨rfl, (Has.cst.str (lbr rfl)), trivial⟩⟩⟩ rfl (by simp [width]) (fr_sf kw (in_cons own_b12_129.lt (in_cons own_b11_126.lt (in_cons own_b10_122.lt (in_cons own_b9_122.lt (in_cons own_b8_116.lt (in_cons own_b6_37.lt in_nil)))))))) ?_
     refine .i (v := (.agg #[(.int .u8 (5)), (.int .i64 (0)), (.string (⟨#[]⟩)), (.slice none 0 0), (.slice none 0 0)])) (loA (hbs rfl e12) own_b12_129 trivial agg33 sz33 rfl rfl) ?_
     refine .i (v := (.agg #[(.int .u8 ((V.mk (5) (0) (⟨#[]⟩) ([⟨#[97]⟩]) ([V.mk (3) (0) (⟨#[97, 98]⟩) ([]) ([])])).k)), (.int .i64 ((V.mk (5) (0) (⟨#[]⟩) ([⟨#[97]⟩]) ([V.mk (3) (0) (⟨#[97, 98]⟩) ([]) ([])])).n)), (.string ((V.mk (5) (0) (⟨#[]⟩) ([⟨#[97]⟩]) ([V.mk (3) (0) (⟨#[97, 98]⟩) ([]) ([])])).t)), (.slice cn157_126a (((V.mk (5) (0) (⟨#[]⟩) ([⟨#[97]⟩]) ([V.mk (3) (0) (⟨#[97, 98]⟩) ([]) ([])])).ns).length) cn157_126c), (.slice ci157_126a (((V.mk (5) (0) (⟨#[]⟩) ([⟨#[97]⟩]) ([V.mk (3) (0) (⟨#[97, 98]⟩) ([]) ([])])).xs).length) ci157_126c)])) (loA (hbs rfl e11) own_b11_126 trivial agg33 sz33 rfl rfl) ?_
     refine .i (v := (.agg #[(.int .u8 (2)), (.int .i64 (1)), (.string (⟨#[]⟩)), (.slice none 0 0), (.slice none 0 0)])) (loA (hbs rfl e9) own_b9_122 trivial agg33 sz33 rfl rfl) ?_
     refine .da (X := SF w [b12_129, b11_126, b10_122, b9_122, b8_116, b6_37]) (e := valsD ([V.mk (5) (0) (⟨#[]⟩) ([]) ([]), (V.mk (5) (0) (⟨#[]⟩) ([⟨#[97]⟩]) ([V.mk (3) (0) (⟨#[97, 98]⟩) ([]) ([])])), V.mk (2) (1) (⟨#[]⟩) ([]) ([])])) (sp_bsl (ds := [V.d (V.mk (5) (0) (⟨#[]⟩) ([]) ([])), V.d ((V.mk (5) (0) (⟨#[]⟩) ([⟨#[97]⟩]) ([V.mk (3) (0) (⟨#[97, 98]⟩) ([]) ([])]))), V.d (V.mk (2) (1) (⟨#[]⟩) ([]) ([]))]) Try.underlying31 sz33 z33 (lbr rfl) (lbr rfl) ⟨rfl, ((hlc rfl).dat (rdV_mk (lbr rfl) (rd_nil _) (rd_nil _) : Rd W130 (SF w [b12_129, b11_126, b10_122, b9_122, b8_116, b6_37]) (V.d (V.mk (5) (0) (⟨#[]⟩) ([]) ([]))) _) sub_all), ⟨rfl, ((hlc rfl).dat (rdV_in (x := (V.mk (5) (0) (⟨#[]⟩) ([⟨#[97]⟩]) ([V.mk (3) (0) (⟨#[97, 98]⟩) ([]) ([])]))) ht_v157_126 D_cn157_126 D_ci157_126 : Rd W130 (SF w [b12_129, b11_126, b10_122, b9_122, b8_116, b6_37]) (V.d ((V.mk (5) (0) (⟨#[]⟩) ([⟨#[97]⟩]) ([V.mk (3) (0) (⟨#[97, 98]⟩) ([]) ([])])))) _) sub_all), ⟨rfl, ((hlc rfl).dat (rdV_mk (lbr rfl) (rd_nil _) (rd_nil _) : Rd W130 (SF w [b12_129, b11_126, b10_122, b9_122, b8_116, b6_37]) (V.d (V.mk (2) (1) (⟨#[]⟩) ([]) ([]))) _) sub_all), trivial⟩⟩⟩ rfl (by intro e he; simp at he; rcases he with rfl | rfl | rfl <;> exact width_V _) (fr_sf kw (in_cons own_b12_129.lt (in_cons own_b11_126.lt (in_cons own_b10_122.lt (in_cons own_b9_122.lt (in_cons own_b8_116.lt (in_cons own_b6_37.lt in_nil)))))))) ?_
     refine .da (X := SF w [b12_129, b11_126, b10_122, b9_122, b8_116, b6_37]) (e := V.d (V.mk 5 0 ⟨#[]⟩ ([sCustom, sHashes, sLength]) ([V.mk (5) (0) (⟨#[]⟩) ([]) ([]), (V.mk (5) (0) (⟨#[]⟩) ([⟨#[97]⟩]) ([V.mk (3) (0) (⟨#[97, 98]⟩) ([]) ([])])), V.mk (2) (1) (⟨#[]⟩) ([]) ([])]))) (sp_call2 (φ1 := IsD (SF w [b12_129, b11_126, b10_122, b9_122, b8_116, b6_37]) (strsD ([sCustom, sHashes, sLength]))) (φ2 := IsD (SF w [b12_129, b11_126, b10_122, b9_122, b8_116, b6_37]) (valsD ([V.mk (5) (0) (⟨#[]⟩) ([]) ([]), (V.mk (5) (0) (⟨#[]⟩) ([⟨#[97]⟩]) ([V.mk (3) (0) (⟨#[97, 98]⟩) ([]) ([])])), V.mk (2) (1) (⟨#[]⟩) ([]) ([])]))) ent71 (hlc rfl) (hlc rfl) (fun g u1 u2 W hk hgk h1 h2 => (obj21_ok ([sCustom, sHashes, sLength]) ([V.mk (5) (0) (⟨#[]⟩) ([]) ([]), (V.mk (5) (0) (⟨#[]⟩) ([⟨#[97]⟩]) ([V.mk (3) (0) (⟨#[97, 98]⟩) ([]) ([])])), V.mk (2) (1) (⟨#[]⟩) ([]) ([])]) W _ _ _ h1 h2).mono (ret_arF kw (in_cons own_b12_129.lt (in_cons own_b11_126.lt (in_cons own_b10_122.lt (in_cons own_b9_122.lt (in_cons own_b8_116.lt (in_cons own_b6_37.lt in_nil)))))) hk hgk))) ?_
     refine .da (X := SF w [b12_129, b11_126, b10_122, b9_122, b8_116, b6_37]) (e := Ro.d (Ro.mk (V.mk 5 0 ⟨#[]⟩ ([sCustom, sHashes, sLength]) ([V.mk (5) (0) (⟨#[]⟩) ([]) ([]), (V.mk (5) (0) (⟨#[]⟩) ([⟨#[97]⟩]) ([V.mk (3) (0) (⟨#[97, 98]⟩) ([]) ([])])), V.mk (2) (1) (⟨#[]⟩) ([]) ([])])) (0))) (sp_buildD (zd := [V.d V.zero, D.int .i64 0]) (es := [(0, V.d (V.mk 5 0 ⟨#[]⟩ ([sCustom, sHashes, sLength]) ([V.mk (5) (0) (⟨#[]⟩) ([]) ([]), (V.mk (5) (0) (⟨#[]⟩) ([⟨#[97]⟩]) ([V.mk (3) (0) (⟨#[97, 98]⟩) ([]) ([])])), V.mk (2) (1) (⟨#[]⟩) ([]) ([])]))), (1, D.int .i64 (0))]) Try.underlying118 z118 (pl118 Try.underlying118) ⟨rfl, (hlc rfl), ⟨rfl, Has.cst.int, trivial⟩⟩ zRo (by first | rfl | simp [plOf, width, width_V, hssD]) (by simp [fits, width, strsD, valsD, hssD, width_V]) rfl) ?_
     refine .da (X := SF w [b12_129, b11_126, b10_122, b9_122, b8_116, b6_37]) (e := strsD ([⟨#[99, 117, 115, 116, 111, 109, 115]⟩, sHashes, sLength])) (sp_bsl (ds := [D.str (⟨#[99, 117, 115, 116, 111, 109, 115]⟩), D.str sHashes, D.str sLength]) Try.underlying23 sz9 z9 (lbr rfl) (lbr rfl) ⟨rfl, (Has.cst.str (lbr rfl)), ⟨rfl, (Has.cst.str (lbr rfl)), ⟨rfl, (Has.cst.str (lbr rfl)), trivial⟩⟩⟩ rfl (by simp [width]) (fr_sf kw (in_cons own_b12_129.lt (in_cons own_b11_126.lt (in_cons own_b10_122.lt (in_cons own_b9_122.lt (in_cons own_b8_116.lt (in_cons own_b6_37.lt in_nil)))))))) ?_
     refine .i (v := (.agg #[(.int .u8 (5)), (.int .i64 (0)), (.string (⟨#[]⟩)), (.slice none 0 0), (.slice none 0 0)])) (loA (hbs rfl e12) own_b12_129 trivial agg33 sz33 rfl rfl) ?_
     refine .i (v := (.agg #[(.int .u8 ((V.mk (5) (0) (⟨#[]⟩) ([⟨#[97]⟩]) ([V.mk (3) (0) (⟨#[97, 98]⟩) ([]) ([])])).k)), (.int .i64 ((V.mk (5) (0) (⟨#[]⟩) ([⟨#[97]⟩]) ([V.mk (3) (0) (⟨#[97, 98]⟩) ([]) ([])])).n)), (.string ((V.mk (5) (0) (⟨#[]⟩) ([⟨#[97]⟩]) ([V.mk (3) (0) (⟨#[97, 98]⟩) ([]) ([])])).t)), (.slice cn157_126a (((V.mk (5) (0) (⟨#[]⟩) ([⟨#[97]⟩]) ([V.mk (3) (0) (⟨#[97, 98]⟩) ([]) ([])])).ns).length) cn157_126c), (.slice ci157_126a (((V.mk (5) (0) (⟨#[]⟩) ([⟨#[97]⟩]) ([V.mk (3) (0) (⟨#[97, 98]⟩) ([]) ([])])).xs).length) ci157_126c)])) (loA (hbs rfl e11) own_b11_126 trivial agg33 sz33 rfl rfl) ?_
     refine .i (v := (.agg #[(.int .u8 (2)), (.int .i64 (1)), (.string (⟨#[]⟩)), (.slice none 0 0), (.slice none 0 0)])) (loA (hbs rfl e9) own_b9_122 trivial agg33 sz33 rfl rfl) ?_
     refine .da (X := SF w [b12_129, b11_126, b10_122, b9_122, b8_116, b6_37]) (e := valsD ([V.mk (5) (0) (⟨#[]⟩) ([]) ([]), (V.mk (5) (0) (⟨#[]⟩) ([⟨#[97]⟩]) ([V.mk (3) (0) (⟨#[97, 98]⟩) ([]) ([])])), V.mk (2) (1) (⟨#[]⟩) ([]) ([])])) (sp_bsl (ds := [V.d (V.mk (5) (0) (⟨#[]⟩) ([]) ([])), V.d ((V.mk (5) (0) (⟨#[]⟩) ([⟨#[97]⟩]) ([V.mk (3) (0) (⟨#[97, 98]⟩) ([]) ([])]))), V.d (V.mk (2) (1) (⟨#[]⟩) ([]) ([]))]) Try.underlying31 sz33 z33 (lbr rfl) (lbr rfl) ⟨rfl, ((hlc rfl).dat (rdV_mk (lbr rfl) (rd_nil _) (rd_nil _) : Rd W130 (SF w [b12_129, b11_126, b10_122, b9_122, b8_116, b6_37]) (V.d (V.mk (5) (0) (⟨#[]⟩) ([]) ([]))) _) sub_all), ⟨rfl, ((hlc rfl).dat (rdV_in (x := (V.mk (5) (0) (⟨#[]⟩) ([⟨#[97]⟩]) ([V.mk (3) (0) (⟨#[97, 98]⟩) ([]) ([])]))) ht_v157_126 D_cn157_126 D_ci157_126 : Rd W130 (SF w [b12_129, b11_126, b10_122, b9_122, b8_116, b6_37]) (V.d ((V.mk (5) (0) (⟨#[]⟩) ([⟨#[97]⟩]) ([V.mk (3) (0) (⟨#[97, 98]⟩) ([]) ([])])))) _) sub_all), ⟨rfl, ((hlc rfl).dat (rdV_mk (lbr rfl) (rd_nil _) (rd_nil _) : Rd W130 (SF w [b12_129, b11_126, b10_122, b9_122, b8_116, b6_37]) (V.d (V.mk (2) (1) (⟨#[]⟩) ([]) ([]))) _) sub_all), trivial⟩⟩⟩ rfl (by intro e he; simp at he; rcases he with rfl | rfl | rfl <;> exact width_V _) (fr_sf kw (in_cons own_b12_129.lt (in_cons own_b11_126.lt (in_cons own_b10_122.lt (in_cons own_b9_122.lt (in_cons own_b8_116.lt (in_cons own_b6_37.lt in_nil)))))))) ?_
     refine .da (X := SF w [b12_129, b11_126, b10_122, b9_122, b8_116, b6_37]) (e := V.d (V.mk 5 0 ⟨#[]⟩ ([⟨#[99, 117, 115, 116, 111, 109, 115]⟩, sHashes, sLength]) ([V.mk (5) (0) (⟨#[]⟩) ([]) ([]), (V.mk (5) (0) (⟨#[]⟩) ([⟨#[97]⟩]) ([V.mk (3) (0) (⟨#[97, 98]⟩) ([]) ([])])), V.mk (2) (1) (⟨#[]⟩) ([]) ([])]))) (sp_call2 (φ1 := IsD (SF w [b12_129, b11_126, b10_122, b9_122, b8_116, b6_37]) (strsD ([⟨#[99, 117, 115, 116, 111, 109, 115]⟩, sHashes, sLength]))) (φ2 := IsD (SF w [b12_129, b11_126, b10_122, b9_122, b8_116, b6_37]) (valsD ([V.mk (5) (0) (⟨#[]⟩) ([]) ([]), (V.mk (5) (0) (⟨#[]⟩) ([⟨#[97]⟩]) ([V.mk (3) (0) (⟨#[97, 98]⟩) ([]) ([])])), V.mk (2) (1) (⟨#[]⟩) ([]) ([])]))) ent71 (hlc rfl) (hlc rfl) (fun g u1 u2 W hk hgk h1 h2 => (obj21_ok ([⟨#[99, 117, 115, 116, 111, 109, 115]⟩, sHashes, sLength]) ([V.mk (5) (0) (⟨#[]⟩) ([]) ([]), (V.mk (5) (0) (⟨#[]⟩) ([⟨#[97]⟩]) ([V.mk (3) (0) (⟨#[97, 98]⟩) ([]) ([])])), V.mk (2) (1) (⟨#[]⟩) ([]) ([])]) W _ _ _ h1 h2).mono (ret_arF kw (in_cons own_b12_129.lt (in_cons own_b11_126.lt (in_cons own_b10_122.lt (in_cons own_b9_122.lt (in_cons own_b8_116.lt (in_cons own_b6_37.lt in_nil)))))) hk hgk))) ?_
     refine .da (X := SF w [b12_129, b11_126, b10_122, b9_122, b8_116, b6_37]) (e := Ro.d (Ro.mk (V.mk 5 0 ⟨#[]⟩ ([⟨#[99, 117, 115, 116, 111, 109, 115]⟩, sHashes, sLength]) ([V.mk (5) (0) (⟨#[]⟩) ([]) ([]), (V.mk (5) (0) (⟨#[]⟩) ([⟨#[97]⟩]) ([V.mk (3) (0) (⟨#[97, 98]⟩) ([]) ([])])), V.mk (2) (1) (⟨#[]⟩) ([]) ([])])) (11))) (sp_buildD (zd := [V.d V.zero, D.int .i64 0]) (es := [(0, V.d (V.mk 5 0 ⟨#[]⟩ ([⟨#[99, 117, 115, 116, 111, 109, 115]⟩, sHashes, sLength]) ([V.mk (5) (0) (⟨#[]⟩) ([]) ([]), (V.mk (5) (0) (⟨#[]⟩) ([⟨#[97]⟩]) ([V.mk (3) (0) (⟨#[97, 98]⟩) ([]) ([])])), V.mk (2) (1) (⟨#[]⟩) ([]) ([])]))), (1, D.int .i64 (11))]) Try.underlying118 z118 (pl118 Try.underlying118) ⟨rfl, (hlc rfl), ⟨rfl, Has.cst.int, trivial⟩⟩ zRo (by first | rfl | simp [plOf, width, width_V, hssD]) (by simp [fits, width, strsD, valsD, hssD, width_V]) rfl) ?_
     refine .da (X := SF w [b12_129, b11_126, b10_122, b9_122, b8_116, b6_37]) (e := strsD ([sCustom, sHashes, sLength])) (sp_bsl (ds := [D.str sCustom, D.str sHashes, D.str sLength]) Try.underlying23 sz9 z9 (lbr rfl) (lbr rfl) ⟨rfl, (Has.cst.str (lbr rfl)), ⟨rfl, (Has.cst.str (lbr rfl)), ⟨rfl, (Has.cst.str (lbr rfl)), trivial⟩⟩⟩ rfl (by simp [width]) (fr_sf kw (in_cons own_b12_129.lt (in_cons own_b11_126.lt (in_cons own_b10_122.lt (in_cons own_b9_122.lt (in_cons own_b8_116.lt (in_cons own_b6_37.lt in_nil)))))))) ?_
     refine .i (v := (.agg #[(.int .u8 (5)), (.int .i64 (0)), (.string (⟨#[]⟩)), (.slice none 0 0), (.slice none 0 0)])) (loA (hbs rfl e12) own_b12_129 trivial agg33 sz33 rfl rfl) ?_
     refine .da (X := SF w [b12_129, b11_126, b10_122, b9_122, b8_116, b6_37]) (e := strsD ([⟨#[97]⟩, ⟨#[98, 32, 98]⟩])) (sp_bsl (ds := [D.str (⟨#[97]⟩), D.str (⟨#[98, 32, 98]⟩)]) Try.underlying23 sz9 z9 (lbr rfl) (lbr rfl) ⟨rfl, (Has.cst.str (lbr rfl)), ⟨rfl, (Has.cst.str (lbr rfl)), trivial⟩⟩ rfl (by simp [width]) (fr_sf kw (in_cons own_b12_129.lt (in_cons own_b11_126.lt (in_cons own_b10_122.lt (in_cons own_b9_122.lt (in_cons own_b8_116.lt (in_cons own_b6_37.lt in_nil)))))))) ?_
     refine .i (v := (.agg #[(.int .u8 (2)), (.int .i64 (1)), (.string (⟨#[]⟩)), (.slice none 0 0), (.slice none 0 0)])) (loA (hbs rfl e9) own_b9_122 trivial agg33 sz33 rfl rfl) ?_
     refine .i (v := (.agg #[(.int .u8 (3)), (.int .i64 (0)), (.string (⟨#[97, 98]⟩)), (.slice none 0 0), (.slice none 0 0)])) (loA (hbs rfl e10) own_b10_122 trivial agg33 sz33 rfl rfl) ?_
     refine .da (X := SF w [b12_129, b11_126, b10_122, b9_122, b8_116, b6_37]) (e := valsD ([V.mk (2) (1) (⟨#[]⟩) ([]) ([]), V.mk (3) (0) (⟨#[97, 98]⟩) ([]) ([])])) (sp_bsl (ds := [V.d (V.mk (2) (1) (⟨#[]⟩) ([]) ([])), V.d (V.mk (3) (0) (⟨#[97, 98]⟩) ([]) ([]))]) Try.underlying31 sz33 z33 (lbr rfl) (lbr rfl) ⟨rfl, ((hlc rfl).dat (rdV_mk (lbr rfl) (rd_nil _) (rd_nil _) : Rd W130 (SF w [b12_129, b11_126, b10_122, b9_122, b8_116, b6_37]) (V.d (V.mk (2) (1) (⟨#[]⟩) ([]) ([]))) _) sub_all), ⟨rfl, ((hlc rfl).dat (rdV_mk (lbr rfl) (rd_nil _) (rd_nil _) : Rd W130 (SF w [b12_129, b11_126, b10_122, b9_122, b8_116, b6_37]) (V.d (V.mk (3) (0) (⟨#[97, 98]⟩) ([]) ([]))) _) sub_all), trivial⟩⟩ rfl (by intro e he; simp at he; rcases he with rfl | rfl <;> exact width_V _) (fr_sf kw (in_cons own_b12_129.lt (in_cons own_b11_126.lt (in_cons own_b10_122.lt (in_cons own_b9_122.lt (in_cons own_b8_116.lt (in_cons own_b6_37.lt in_nil)))))))) ?_
     refine .da (X := SF w [b12_129, b11_126, b10_122, b9_122, b8_116, b6_37]) (e := V.d (V.mk 5 0 ⟨#[]⟩ ([⟨#[97]⟩, ⟨#[98, 32, 98]⟩]) ([V.mk (2) (1) (⟨#[]⟩) ([]) ([]), V.mk (3) (0) (⟨#[97, 98]⟩) ([]) ([])]))) (sp_call2 (φ1 := IsD (SF w [b12_129, b11_126, b10_122, b9_122, b8_116, b6_37]) (strsD ([⟨#[97]⟩, ⟨#[98, 32, 98]⟩]))) (φ2 := IsD (SF w [b12_129, b11_126, b10_122, b9_122, b8_116, b6_37]) (valsD ([V.mk (2) (1) (⟨#[]⟩) ([]) ([]), V.mk (3) (0) (⟨#[97, 98]⟩) ([]) ([])]))) ent71 (hlc rfl) (hlc rfl) (fun g u1 u2 W hk hgk h1 h2 => (obj21_ok ([⟨#[97]⟩, ⟨#[98, 32, 98]⟩]) ([V.mk (2) (1) (⟨#[]⟩) ([]) ([]), V.mk (3) (0) (⟨#[97, 98]⟩) ([]) ([])]) W _ _ _ h1 h2).mono (ret_arF kw (in_cons own_b12_129.lt (in_cons own_b11_126.lt (in_cons own_b10_122.lt (in_cons own_b9_122.lt (in_cons own_b8_116.lt (in_cons own_b6_37.lt in_nil)))))) hk hgk))) ?_
     refine .i (v := (.agg #[(.int .u8 (2)), (.int .i64 (1)), (.string (⟨#[]⟩)), (.slice none 0 0), (.slice none 0 0)])) (loA (hbs rfl e9) own_b9_122 trivial agg33 sz33 rfl rfl) ?_
     refine .da (X := SF w [b12_129, b11_126, b10_122, b9_122, b8_116, b6_37]) (e := valsD ([V.mk (5) (0) (⟨#[]⟩) ([]) ([]), V.mk 5 0 ⟨#[]⟩ ([⟨#[97]⟩, ⟨#[98, 32, 98]⟩]) ([V.mk (2) (1) (⟨#[]⟩) ([]) ([]), V.mk (3) (0) (⟨#[97, 98]⟩) ([]) ([])]), V.mk (2) (1) (⟨#[]⟩) ([]) ([])])) (sp_bsl (ds := [V.d (V.mk (5) (0) (⟨#[]⟩) ([]) ([])), V.d (V.mk 5 0 ⟨#[]⟩ ([⟨#[97]⟩, ⟨#[98, 32, 98]⟩]) ([V.mk (2) (1) (⟨#[]⟩) ([]) ([]), V.mk (3) (0) (⟨#[97, 98]⟩) ([]) ([])])), V.d (V.mk (2) (1) (⟨#[]⟩) ([]) ([]))]) Try.underlying31 sz33 z33 (lbr rfl) (lbr rfl) ⟨rfl, ((hlc rfl).dat (rdV_mk (lbr rfl) (rd_nil _) (rd_nil _) : Rd W130 (SF w [b12_129, b11_126, b10_122, b9_122, b8_116, b6_37]) (V.d (V.mk (5) (0) (⟨#[]⟩) ([]) ([]))) _) sub_all), ⟨rfl, (hlc rfl), ⟨rfl, ((hlc rfl).dat (rdV_mk (lbr rfl) (rd_nil _) (rd_nil _) : Rd W130 (SF w [b12_129, b11_126, b10_122, b9_122, b8_116, b6_37]) (V.d (V.mk (2) (1) (⟨#[]⟩) ([]) ([]))) _) sub_all), trivial⟩⟩⟩ rfl (by intro e he; simp at he; rcases he with rfl | rfl | rfl <;> exact width_V _) (fr_sf kw (in_cons own_b12_129.lt (in_cons own_b11_126.lt (in_cons own_b10_122.lt (in_cons own_b9_122.lt (in_cons own_b8_116.lt (in_cons own_b6_37.lt in_nil)))))))) ?_
     refine .da (X := SF w [b12_129, b11_126, b10_122, b9_122, b8_116, b6_37]) (e := V.d (V.mk 5 0 ⟨#[]⟩ ([sCustom, sHashes, sLength]) ([V.mk (5) (0) (⟨#[]⟩) ([]) ([]), V.mk 5 0 ⟨#[]⟩ ([⟨#[97]⟩, ⟨#[98, 32, 98]⟩]) ([V.mk (2) (1) (⟨#[]⟩) ([]) ([]), V.mk (3) (0) (⟨#[97, 98]⟩) ([]) ([])]), V.mk (2) (1) (⟨#[]⟩) ([]) ([])]))) (sp_call2 (φ1 := IsD (SF w [b12_129, b11_126, b10_122, b9_122, b8_116, b6_37]) (strsD ([sCustom, sHashes, sLength]))) (φ2 := IsD (SF w [b12_129, b11_126, b10_122, b9_122, b8_116, b6_37]) (valsD ([V.mk (5) (0) (⟨#[]⟩) ([]) ([]), V.mk 5 0 ⟨#[]⟩ ([⟨#[97]⟩, ⟨#[98, 32, 98]⟩]) ([V.mk (2) (1) (⟨#[]⟩) ([]) ([]), V.mk (3) (0) (⟨#[97, 98]⟩) ([]) ([])]), V.mk (2) (1) (⟨#[]⟩) ([]) ([])]))) ent71 (hlc rfl) (hlc rfl) (fun g u1 u2 W hk hgk h1 h2 => (obj21_ok ([sCustom, sHashes, sLength]) ([V.mk (5) (0) (⟨#[]⟩) ([]) ([]), V.mk 5 0 ⟨#[]⟩ ([⟨#[97]⟩, ⟨#[98, 32, 98]⟩]) ([V.mk (2) (1) (⟨#[]⟩) ([]) ([]), V.mk (3) (0) (⟨#[97, 98]⟩) ([]) ([])]), V.mk (2) (1) (⟨#[]⟩) ([]) ([])]) W _ _ _ h1 h2).mono (ret_arF kw (in_cons own_b12_129.lt (in_cons own_b11_126.lt (in_cons own_b10_122.lt (in_cons own_b9_122.lt (in_cons own_b8_116.lt (in_cons own_b6_37.lt in_nil)))))) hk hgk))) ?_
     refine .da (X := SF w [b12_129, b11_126, b10_122, b9_122, b8_116, b6_37]) (e := Ro.d (Ro.mk (V.mk 5 0 ⟨#[]⟩ ([sCustom, sHashes, sLength]) ([V.mk (5) (0) (⟨#[]⟩) ([]) ([]), V.mk 5 0 ⟨#[]⟩ ([⟨#[97]⟩, ⟨#[98, 32, 98]⟩]) ([V.mk (2) (1) (⟨#[]⟩) ([]) ([]), V.mk (3) (0) (⟨#[97, 98]⟩) ([]) ([])]), V.mk (2) (1) (⟨#[]⟩) ([]) ([])])) (10))) (sp_buildD (zd := [V.d V.zero, D.int .i64 0]) (es := [(0, V.d (V.mk 5 0 ⟨#[]⟩ ([sCustom, sHashes, sLength]) ([V.mk (5) (0) (⟨#[]⟩) ([]) ([]), V.mk 5 0 ⟨#[]⟩ ([⟨#[97]⟩, ⟨#[98, 32, 98]⟩]) ([V.mk (2) (1) (⟨#[]⟩) ([]) ([]), V.mk (3) (0) (⟨#[97, 98]⟩) ([]) ([])]), V.mk (2) (1) (⟨#[]⟩) ([]) ([])]))), (1, D.int .i64 (10))]) Try.underlying118 z118 (pl118 Try.underlying118) ⟨rfl, (hlc rfl), ⟨rfl, Has.cst.int, trivial⟩⟩ zRo (by first | rfl | simp [plOf, width, width_V, hssD]) (by simp [fits, width, strsD, valsD, hssD, width_V]) rfl) ?_
     refine .da (X := SF w [b12_129, b11_126, b10_122, b9_122, b8_116, b6_37]) (e := strsD ([⟨#[97]⟩, sHashes, sLength])) (sp_bsl (ds := [D.str (⟨#[97]⟩), D.str sHashes, D.str sLength]) Try.underlying23 sz9 z9 (lbr rfl) (lbr rfl) ⟨rfl, (Has.cst.str (lbr rfl)), ⟨rfl, (Has.cst.str (lbr rfl)), ⟨rfl, (Has.cst.str (lbr rfl)), trivial⟩⟩⟩ rfl (by simp [width]) (fr_sf kw (in_cons own_b12_129.lt (in_cons own_b11_126.lt (in_cons own_b10_122.lt (in_cons own_b9_122.lt (in_cons own_b8_116.lt (in_cons own_b6_37.lt in_nil)))))))) ?_
     refine .i (v := (.agg #[(.int .u8 (5)), (.int .i64 (0)), (.string (⟨#[]⟩)), (.slice none 0 0), (.slice none 0 0)])) (loA (hbs rfl e12) own_b12_129 trivial agg33 sz33 rfl rfl) ?_
     refine .da (X := SF w [b12_129, b11_126, b10_122, b9_122, b8_116, b6_37]) (e := strsD ([⟨#[97, 32, 97]⟩])) (sp_bsl (ds := [D.str (⟨#[97, 32, 97]⟩)]) Try.underlying23 sz9 z9 (lbr rfl) (lbr rfl) ⟨rfl, (Has.cst.str (lbr rfl)), trivial⟩ rfl (by simp [width]) (fr_sf kw (in_cons own_b12_129.lt (in_cons own_b11_126.lt (in_cons own_b10_122.lt (in_cons own_b9_122.lt (in_cons own_b8_116.lt (in_cons own_b6_37.lt in_nil)))))))) ?_
     refine .i (v := (.agg #[(.int .u8 (2)), (.int .i64 (1)), (.string (⟨#[]⟩)), (.slice none 0 0), (.slice none 0 0)])) (loA (hbs rfl e9) own_b9_122 trivial agg33 sz33 rfl rfl) ?_
     refine .da (X := SF w [b12_129, b11_126, b10_122, b9_122, b8_116, b6_37]) (e := valsD ([V.mk (2) (1) (⟨#[]⟩) ([]) ([])])) (sp_bsl (ds := [V.d (V.mk (2) (1) (⟨#[]⟩) ([]) ([]))]) Try.underlying31 sz33 z33 (lbr rfl) (lbr rfl) ⟨rfl, ((hlc rfl).dat (rdV_mk (lbr rfl) (rd_nil _) (rd_nil _) : Rd W130 (SF w [b12_129, b11_126, b10_122, b9_122, b8_116, b6_37]) (V.d (V.mk (2) (1) (⟨#[]⟩) ([]) ([]))) _) sub_all), trivial⟩ rfl (by intro e he; simp at he; rcases he with rfl <;> exact width_V _) (fr_sf kw (in_cons own_b12_129.lt (in_cons own_b11_126.lt (in_cons own_b10_122.lt (in_cons own_b9_122.lt (in_cons own_b8_116.lt (in_cons own_b6_37.lt in_nil)))))))) ?_
     refine .da (X := SF w [b12_129, b11_126, b10_122, b9_122, b8_116, b6_37]) (e := V.d (V.mk 5 0 ⟨#[]⟩ ([⟨#[97, 32, 97]⟩]) ([V.mk (2) (1) (⟨#[]⟩) ([]) ([])]))) (sp_call2 (φ1 := IsD (SF w [b12_129, b11_126, b10_122, b9_122, b8_116, b6_37]) (strsD ([⟨#[97, 32, 97]⟩]))) (φ2 := IsD (SF w [b12_129, b11_126, b10_122, b9_122, b8_116, b6_37]) (valsD ([V.mk (2) (1) (⟨#[]⟩) ([]) ([])]))) ent71 (hlc rfl) (hlc rfl) (fun g u1 u2 W hk hgk h1 h2 => (obj21_ok ([⟨#[97, 32, 97]⟩]) ([V.mk (2) (1) (⟨#[]⟩) ([]) ([])]) W _ _ _ h1 h2).mono (ret_arF kw (in_cons own_b12_129.lt (in_cons own_b11_126.lt (in_cons own_b10_122.lt (in_cons own_b9_122.lt (in_cons own_b8_116.lt (in_cons own_b6_37.lt in_nil)))))) hk hgk))) ?_
     refine .i (v := (.agg #[(.int .u8 (2)), (.int .i64 (1)), (.string (⟨#[]⟩)), (.slice none 0 0), (.slice none 0 0)])) (loA (hbs rfl e9) own_b9_122 trivial agg33 sz33 rfl rfl) ?_
     refine .da (X := SF w [b12_129, b11_126, b10_122, b9_122, b8_116, b6_37]) (e := valsD ([V.mk (5) (0) (⟨#[]⟩) ([]) ([]), V.mk 5 0 ⟨#[]⟩ ([⟨#[97, 32, 97]⟩]) ([V.mk (2) (1) (⟨#[]⟩) ([]) ([])]), V.mk (2) (1) (⟨#[]⟩) ([]) ([])])) (sp_bsl (ds := [V.d (V.mk (5) (0) (⟨#[]⟩) ([]) ([])), V.d (V.mk 5 0 ⟨#[]⟩ ([⟨#[97, 32, 97]⟩]) ([V.mk (2) (1) (⟨#[]⟩) ([]) ([])])), V.d (V.mk (2) (1) (⟨#[]⟩) ([]) ([]))]) Try.underlying31 sz33 z33 (lbr rfl) (lbr rfl) ⟨rfl, ((hlc rfl).dat (rdV_mk (lbr rfl) (rd_nil _) (rd_nil _) : Rd W130 (SF w [b12_129, b11_126, b10_122, b9_122, b8_116, b6_37]) (V.d (V.mk (5) (0) (⟨#[]⟩) ([]) ([]))) _) sub_all), ⟨rfl, (hlc rfl), ⟨rfl, ((hlc rfl).dat (rdV_mk (lbr rfl) (rd_nil _) (rd_nil _) : Rd W130 (SF w [b12_129, b11_126, b10_122, b9_122, b8_116, b6_37]) (V.d (V.mk (2) (1) (⟨#[]⟩) ([]) ([]))) _) sub_all), trivial⟩⟩⟩ rfl (by intro e he; simp at he; rcases he with rfl | rfl | rfl <;> exact width_V _) (fr_sf kw (in_cons own_b12_129.lt (in_cons own_b11_126.lt (in_cons own_b10_122.lt (in_cons own_b9_122.lt (in_cons own_b8_116.lt (in_cons own_b6_37.lt in_nil)))))))) ?_
     refine .da (X := SF w [b12_129, b11_126, b10_122, b9_122, b8_116, b6_37]) (e := V.d (V.mk 5 0 ⟨#[]⟩ ([⟨#[97]⟩, sHashes, sLength]) ([V.mk (5) (0) (⟨#[]⟩) ([]) ([]), V.mk 5 0 ⟨#[]⟩ ([⟨#[97, 32, 97]⟩]) ([V.mk (2) (1) (⟨#[]⟩) ([]) ([])]), V.mk (2) (1) (⟨#[]⟩) ([]) ([])]))) (sp_call2 (φ1 := IsD (SF w [b12_129, b11_126, b10_122, b9_122, b8_116, b6_37]) (strsD ([⟨#[97]⟩, sHashes, sLength]))) (φ2 := IsD (SF w [b12_129, b11_126, b10_122, b9_122, b8_116, b6_37]) (valsD ([V.mk (5) (0) (⟨#[]⟩) ([]) ([]), V.mk 5 0 ⟨#[]⟩ ([⟨#[97, 32, 97]⟩]) ([V.mk (2) (1) (⟨#[]⟩) ([]) ([])]), V.mk (2) (1) (⟨#[]⟩) ([]) ([])]))) ent71 (hlc rfl) (hlc rfl) (fun g u1 u2 W hk hgk h1 h2 => (obj21_ok ([⟨#[97]⟩, sHashes, sLength]) ([V.mk (5) (0) (⟨#[]⟩) ([]) ([]), V.mk 5 0 ⟨#[]⟩ ([⟨#[97, 32, 97]⟩]) ([V.mk (2) (1) (⟨#[]⟩) ([]) ([])]), V.mk (2) (1) (⟨#[]⟩) ([]) ([])]) W _ _ _ h1 h2).mono (ret_arF kw (in_cons own_b12_129.lt (in_cons own_b11_126.lt (in_cons own_b10_122.lt (in_cons own_b9_122.lt (in_cons own_b8_116.lt (in_cons own_b6_37.lt in_nil)))))) hk hgk))) ?_
     refine .da (X := SF w [b12_129, b11_126, b10_122, b9_122, b8_116, b6_37]) (e := Ro.d (Ro.mk (V.mk 5 0 ⟨#[]⟩ ([⟨#[97]⟩, sHashes, sLength]) ([V.mk (5) (0) (⟨#[]⟩) ([]) ([]), V.mk 5 0 ⟨#[]⟩ ([⟨#[97, 32, 97]⟩]) ([V.mk (2) (1) (⟨#[]⟩) ([]) ([])]), V.mk (2) (1) (⟨#[]⟩) ([]) ([])])) (3))) (sp_buildD (zd := [V.d V.zero, D.int .i64 0]) (es := [(0, V.d (V.mk 5 0 ⟨#[]⟩ ([⟨#[97]⟩, sHashes, sLength]) ([V.mk (5) (0) (⟨#[]⟩) ([]) ([]), V.mk 5 0 ⟨#[]⟩ ([⟨#[97, 32, 97]⟩]) ([V.mk (2) (1) (⟨#[]⟩) ([]) ([])]), V.mk (2) (1) (⟨#[]⟩) ([]) ([])]))), (1, D.int .i64 (3))]) Try.underlying118 z118 (pl118 Try.underlying118) ⟨rfl, (hlc rfl), ⟨rfl, Has.cst.int, trivial⟩⟩ zRo (by first | rfl | simp [plOf, width, width_V, hssD]) (by simp [fits, width, strsD, valsD, hssD, width_V]) rfl) ?_
     refine .da (X := SF w [b12_129, b11_126, b10_122, b9_122, b8_116, b6_37]) (e := strsD ([sHashes, sLength])) (sp_bsl (ds := [D.str sHashes, D.str sLength]) Try.underlying23 sz9 z9 (lbr rfl) (lbr rfl) ⟨rfl, (Has.cst.str (lbr rfl)), ⟨rfl, (Has.cst.str (lbr rfl)), trivial⟩⟩ rfl (by simp [width]) (fr_sf kw (in_cons own_b12_129.lt (in_cons own_b11_126.lt (in_cons own_b10_122.lt (in_cons own_b9_122.lt (in_cons own_b8_116.lt (in_cons own_b6_37.lt in_nil)))))))) ?_
     refine .da (X := SF w [b12_129, b11_126, b10_122, b9_122, b8_116, b6_37]) (e := strsD ([⟨#[97]⟩, ⟨#[98]⟩, ⟨#[99]⟩, ⟨#[100]⟩, ⟨#[101]⟩])) (sp_bsl (ds := [D.str (⟨#[97]⟩), D.str (⟨#[98]⟩), D.str (⟨#[99]⟩), D.str (⟨#[100]⟩), D.str (⟨#[101]⟩)]) Try.underlying23 sz9 z9 (lbr rfl) (lbr rfl) ⟨rfl, (Has.cst.str (lbr rfl)), ⟨rfl, (Has.cst.str (lbr rfl)), ⟨rfl, (Has.cst.str (lbr rfl)), ⟨rfl, (Has.cst.str (lbr rfl)), ⟨rfl, (Has.cst.str (lbr rfl)), trivial⟩⟩⟩⟩⟩ rfl (by simp [width]) (fr_sf kw (in_cons own_b12_129.lt (in_cons own_b11_126.lt (in_cons own_b10_122.lt (in_cons own_b9_122.lt (in_cons own_b8_116.lt (in_cons own_b6_37.lt in_nil)))))))) ?_
     refine .i (v := (.agg #[(.int .u8 (3)), (.int .i64 (0)), (.string (⟨#[97, 98]⟩)), (.slice none 0 0), (.slice none 0 0)])) (loA (hbs rfl e10) own_b10_122 trivial agg33 sz33 rfl rfl) ?_
     refine .i (v := (.agg #[(.int .u8 (3)), (.int .i64 (0)), (.string (⟨#[97, 98]⟩)), (.slice none 0 0), (.slice none 0 0)])) (loA (hbs rfl e10) own_b10_122 trivial agg33 sz33 rfl rfl) ?_
     refine .i (v := (.agg #[(.int .u8 (3)), (.int .i64 (0)), (.string (⟨#[97, 98]⟩)), (.slice none 0 0), (.slice none 0 0)])) (loA (hbs rfl e10) own_b10_122 trivial agg33 sz33 rfl rfl) ?_
     refine .i (v := (.agg #[(.int .u8 (3)), (.int .i64 (0)), (.string (⟨#[97, 98]⟩)), (.slice none 0 0), (.slice none 0 0)])) (loA (hbs rfl e10) own_b10_122 trivial agg33 sz33 rfl rfl) ?_
     refine .i (v := (.agg #[(.int .u8 (3)), (.int .i64 (0)), (.string (⟨#[97, 98]⟩)), (.slice none 0 0), (.slice none 0 0)])) (loA (hbs rfl e10) own_b10_122 trivial agg33 sz33 rfl rfl) ?_
     refine .da (X := SF w [b12_129, b11_126, b10_122, b9_122, b8_116, b6_37]) (e := valsD ([V.mk (3) (0) (⟨#[97, 98]⟩) ([]) ([]), V.mk (3) (0) (⟨#[97, 98]⟩) ([]) ([]), V.mk (3) (0) (⟨#[97, 98]⟩) ([]) ([]), V.mk (3) (0) (⟨#[97, 98]⟩) ([]) ([]), V.mk (3) (0) (⟨#[97, 98]⟩) ([]) ([])])) (sp_bsl (ds := [V.d (V.mk (3) (0) (⟨#[97, 98]⟩) ([]) ([])), V.d (V.mk (3) (0) (⟨#[97, 98]⟩) ([]) ([])), V.d (V.mk (3) (0) (⟨#[97, 98]⟩) ([]) ([])), V.d (V.mk (3) (0) (⟨#[97, 98]⟩) ([]) ([])), V.d (V.mk (3) (0) (⟨#[97, 98]⟩) ([]) ([]))]) Try.underlying31 sz33 z33 (lbr rfl) (lbr rfl) ⟨rfl, ((hlc rfl).dat (rdV_mk (lbr rfl) (rd_nil _) (rd_nil _) : Rd W130 (SF w [b12_129, b11_126, b10_122, b9_122, b8_116, b6_37]) (V.d (V.mk (3) (0) (⟨#[97, 98]⟩) ([]) ([]))) _) sub_all), ⟨rfl, ((hlc rfl).dat (rdV_mk (lbr rfl) (rd_nil _) (rd_nil _) : Rd W130 (SF w [b12_129, b11_126, b10_122, b9_122, b8_116, b6_37]) (V.d (V.mk (3) (0) (⟨#[97, 98]⟩) ([]) ([]))) _) sub_all), ⟨rfl, ((hlc rfl).dat (rdV_mk (lbr rfl) (rd_nil _) (rd_nil _) : Rd W130 (SF w [b12_129, b11_126, b10_122, b9_122, b8_116, b6_37]) (V.d (V.mk (3) (0) (⟨#[97, 98]⟩) ([]) ([]))) _) sub_all), ⟨rfl, ((hlc rfl).dat (rdV_mk (lbr rfl) (rd_nil _) (rd_nil _) : Rd W130 (SF w [b12_129, b11_126, b10_122, b9_122, b8_116, b6_37]) (V.d (V.mk (3) (0) (⟨#[97, 98]⟩) ([]) ([]))) _) sub_all), ⟨rfl, ((hlc rfl).dat (rdV_mk (lbr rfl) (rd_nil _) (rd_nil _) : Rd W130 (SF w [b12_129, b11_126, b10_122, b9_122, b8_116, b6_37]) (V.d (V.mk (3) (0) (⟨#[97, 98]⟩) ([]) ([]))) _) sub_all), trivial⟩⟩⟩⟩⟩ rfl (by intro e he; simp at he; rcases he with rfl | rfl | rfl | rfl | rfl <;> exact width_V _) (fr_sf kw (in_cons own_b12_129.lt (in_cons own_b11_126.lt (in_cons own_b10_122.lt (in_cons own_b9_122.lt (in_cons own_b8_116.lt (in_cons own_b6_37.lt in_nil)))))))) ?_
     refine .da (X := SF w [b12_129, b11_126, b10_122, b9_122, b8_116, b6_37]) (e := V.d (V.mk 5 0 ⟨#[]⟩ ([⟨#[97]⟩, ⟨#[98]⟩, ⟨#[99]⟩, ⟨#[100]⟩, ⟨#[101]⟩]) ([V.mk (3) (0) (⟨#[97, 98]⟩) ([]) ([]), V.mk (3) (0) (⟨#[97, 98]⟩) ([]) ([]), V.mk (3) (0) (⟨#[97, 98]⟩) ([]) ([]), V.mk (3) (0) (⟨#[97, 98]⟩) ([]) ([]), V.mk (3) (0) (⟨#[97, 98]⟩) ([]) ([])]))) (sp_call2 (φ1 := IsD (SF w [b12_129, b11_126, b10_122, b9_122, b8_116, b6_37]) (strsD ([⟨#[97]⟩, ⟨#[98]⟩, ⟨#[99]⟩, ⟨#[100]⟩, ⟨#[101]⟩]))) (φ2 := IsD (SF w [b12_129, b11_126, b10_122, b9_122, b8_116, b6_37]) (valsD ([V.mk (3) (0) (⟨#[97, 98]⟩) ([]) ([]), V.mk (3) (0) (⟨#[97, 98]⟩) ([]) ([]), V.mk (3) (0) (⟨#[97, 98]⟩) ([]) ([]), V.mk (3) (0) (⟨#[97, 98]⟩) ([]) ([]), V.mk (3) (0) (⟨#[97, 98]⟩) ([]) ([])]))) ent71 (hlc rfl) (hlc rfl) (fun g u1 u2 W hk hgk h1 h2 => (obj21_ok ([⟨#[97]⟩, ⟨#[98]⟩, ⟨#[99]⟩, ⟨#[100]⟩, ⟨#[101]⟩]) ([V.mk (3) (0) (⟨#[97, 98]⟩) ([]) ([]), V.mk (3) (0) (⟨#[97, 98]⟩) ([]) ([]), V.mk (3) (0) (⟨#[97, 98]⟩) ([]) ([]), V.mk (3) (0) (⟨#[97, 98]⟩) ([]) ([]), V.mk (3) (0) (⟨#[97, 98]⟩) ([]) ([])]) W _ _ _ h1 h2).mono (ret_arF kw (in_cons own_b12_129.lt (in_cons own_b11_126.lt (in_cons own_b10_122.lt (in_cons own_b9_122.lt (in_cons own_b8_116.lt (in_cons own_b6_37.lt in_nil)))))) hk hgk))) ?_
     refine .i (v := (.agg #[(.int .u8 (2)), (.int .i64 (1)), (.string (⟨#[]⟩)), (.slice none 0 0), (.slice none 0 0)])) (loA (hbs rfl e9) own_b9_122 trivial agg33 sz33 rfl rfl) ?_
     refine .da (X := SF w [b12_129, b11_126, b10_122, b9_122, b8_116, b6_37]) (e := valsD ([V.mk 5 0 ⟨#[]⟩ ([⟨#[97]⟩, ⟨#[98]⟩, ⟨#[99]⟩, ⟨#[100]⟩, ⟨#[101]⟩]) ([V.mk (3) (0) (⟨#[97, 98]⟩) ([]) ([]), V.mk (3) (0) (⟨#[97, 98]⟩) ([]) ([]), V.mk (3) (0) (⟨#[97, 98]⟩) ([]) ([]), V.mk (3) (0) (⟨#[97, 98]⟩) ([]) ([]), V.mk (3) (0) (⟨#[97, 98]⟩) ([]) ([])]), V.mk (2) (1) (⟨#[]⟩) ([]) ([])])) (sp_bsl (ds := [V.d (V.mk 5 0 ⟨#[]⟩ ([⟨#[97]⟩, ⟨#[98]⟩, ⟨#[99]⟩, ⟨#[100]⟩, ⟨#[101]⟩]) ([V.mk (3) (0) (⟨#[97, 98]⟩) ([]) ([]), V.mk (3) (0) (⟨#[97, 98]⟩) ([]) ([]), V.mk (3) (0) (⟨#[97, 98]⟩) ([]) ([]), V.mk (3) (0) (⟨#[97, 98]⟩) ([]) ([]), V.mk (3) (0) (⟨#[97, 98]⟩) ([]) ([])])), V.d (V.mk (2) (1) (⟨#[]⟩) ([]) ([]))]) Try.underlying31 sz33 z33 (lbr rfl) (lbr rfl) ⟨rfl, (hlc rfl), ⟨rfl, ((hlc rfl).dat (rdV_mk (lbr rfl) (rd_nil _) (rd_nil _) : Rd W130 (SF w [b12_129, b11_126, b10_122, b9_122, b8_116, b6_37]) (V.d (V.mk (2) (1) (⟨#[]⟩) ([]) ([]))) _) sub_all), trivial⟩⟩ rfl (by intro e he; simp at he; rcases he with rfl | rfl <;> exact width_V _) (fr_sf kw (in_cons own_b12_129.lt (in_cons own_b11_126.lt (in_cons own_b10_122.lt (in_cons own_b9_122.lt (in_cons own_b8_116.lt (in_cons own_b6_37.lt in_nil)))))))) ?_
     refine .da (X := SF w [b12_129, b11_126, b10_122, b9_122, b8_116, b6_37]) (e := V.d (V.mk 5 0 ⟨#[]⟩ ([sHashes, sLength]) ([V.mk 5 0 ⟨#[]⟩ ([⟨#[97]⟩, ⟨#[98]⟩, ⟨#[99]⟩, ⟨#[100]⟩, ⟨#[101]⟩]) ([V.mk (3) (0) (⟨#[97, 98]⟩) ([]) ([]), V.mk (3) (0) (⟨#[97, 98]⟩) ([]) ([]), V.mk (3) (0) (⟨#[97, 98]⟩) ([]) ([]), V.mk (3) (0) (⟨#[97, 98]⟩) ([]) ([]), V.mk (3) (0) (⟨#[97, 98]⟩) ([]) ([])]), V.mk (2) (1) (⟨#[]⟩) ([]) ([])]))) (sp_call2 (φ1 := IsD (SF w [b12_129, b11_126, b10_122, b9_122, b8_116, b6_37]) (strsD ([sHashes, sLength]))) (φ2 := IsD (SF w [b12_129, b11_126, b10_122, b9_122, b8_116, b6_37]) (valsD ([V.mk 5 0 ⟨#[]⟩ ([⟨#[97]⟩, ⟨#[98]⟩, ⟨#[99]⟩, ⟨#[100]⟩, ⟨#[101]⟩]) ([V.mk (3) (0) (⟨#[97, 98]⟩) ([]) ([]), V.mk (3) (0) (⟨#[97, 98]⟩) ([]) ([]), V.mk (3) (0) (⟨#[97, 98]⟩) ([]) ([]), V.mk (3) (0) (⟨#[97, 98]⟩) ([]) ([]), V.mk (3) (0) (⟨#[97, 98]⟩) ([]) ([])]), V.mk (2) (1) (⟨#[]⟩) ([]) ([])]))) ent71 (hlc rfl) (hlc rfl) (fun g u1 u2 W hk hgk h1 h2 => (obj21_ok ([sHashes, sLength]) ([V.mk 5 0 ⟨#[]⟩ ([⟨#[97]⟩, ⟨#[98]⟩, ⟨#[99]⟩, ⟨#[100]⟩, ⟨#[101]⟩]) ([V.mk (3) (0) (⟨#[97, 98]⟩) ([]) ([]), V.mk (3) (0) (⟨#[97, 98]⟩) ([]) ([]), V.mk (3) (0) (⟨#[97, 98]⟩) ([]) ([]), V.mk (3) (0) (⟨#[97, 98]⟩) ([]) ([]), V.mk (3) (0) (⟨#[97, 98]⟩) ([]) ([])]), V.mk (2) (1) (⟨#[]⟩) ([]) ([])]) W _ _ _ h1 h2).mono (ret_arF kw (in_cons own_b12_129.lt (in_cons own_b11_126.lt (in_cons own_b10_122.lt (in_cons own_b9_122.lt (in_cons own_b8_116.lt (in_cons own_b6_37.lt in_nil)))))) hk hgk))) ?_
     refine .da (X := SF w [b12_129, b11_126, b10_122, b9_122, b8_116, b6_37]) (e := Ro.d (Ro.mk (V.mk 5 0 ⟨#[]⟩ ([sHashes, sLength]) ([V.mk 5 0 ⟨#[]⟩ ([⟨#[97]⟩, ⟨#[98]⟩, ⟨#[99]⟩, ⟨#[100]⟩, ⟨#[101]⟩]) ([V.mk (3) (0) (⟨#[97, 98]⟩) ([]) ([]), V.mk (3) (0) (⟨#[97, 98]⟩) ([]) ([]), V.mk (3) (0) (⟨#[97, 98]⟩) ([]) ([]), V.mk (3) (0) (⟨#[97, 98]⟩) ([]) ([]), V.mk (3) (0) (⟨#[97, 98]⟩) ([]) ([])]), V.mk (2) (1) (⟨#[]⟩) ([]) ([])])) (5))) (sp_buildD (zd := [V.d V.zero, D.int .i64 0]) (es := [(0, V.d (V.mk 5 0 ⟨#[]⟩ ([sHashes, sLength]) ([V.mk 5 0 ⟨#[]⟩ ([⟨#[97]⟩, ⟨#[98]⟩, ⟨#[99]⟩, ⟨#[100]⟩, ⟨#[101]⟩]) ([V.mk (3) (0) (⟨#[97, 98]⟩) ([]) ([]), V.mk (3) (0) (⟨#[97, 98]⟩) ([]) ([]), V.mk (3) (0) (⟨#[97, 98]⟩) ([]) ([]), V.mk (3) (0) (⟨#[97, 98]⟩) ([]) ([]), V.mk (3) (0) (⟨#[97, 98]⟩) ([]) ([])]), V.mk (2) (1) (⟨#[]⟩) ([]) ([])]))), (1, D.int .i64 (5))]) Try.underlying118 z118 (pl118 Try.underlying118) ⟨rfl, (hlc rfl), ⟨rfl, Has.cst.int, trivial⟩⟩ zRo (by first | rfl | simp [plOf, width, width_V, hssD]) (by simp [fits, width, strsD, valsD, hssD, width_V]) rfl) ?_
     refine .da (X := SF w [b12_129, b11_126, b10_122, b9_122, b8_116, b6_37]) (e := rosD ([Ro.mk (V.mk (0) (0) (⟨#[]⟩) ([]) ([])) (3), Ro.mk (V.mk (2) (1) (⟨#[]⟩) ([]) ([])) (10), Ro.mk (V.mk (5) (0) (⟨#[]⟩) ([]) ([])) (6), Ro.mk (V.mk 5 0 ⟨#[]⟩ ([sLength]) ([V.mk (2) (1) (⟨#[]⟩) ([]) ([])])) (6), Ro.mk (V.mk 5 0 ⟨#[]⟩ ([sHashes]) ([(V.mk (5) (0) (⟨#[]⟩) ([⟨#[97]⟩]) ([V.mk (3) (0) (⟨#[97, 98]⟩) ([]) ([])]))])) (6), Ro.mk (V.mk 5 0 ⟨#[]⟩ ([sHashes, sLength]) ([(V.mk (5) (0) (⟨#[]⟩) ([⟨#[97]⟩]) ([V.mk (3) (0) (⟨#[97, 98]⟩) ([]) ([])])), V.mk (2) (1) (⟨#[]⟩) ([]) ([])])) (0), Ro.mk (V.mk 5 0 ⟨#[]⟩ ([sHashes, sLength]) ([(V.mk (5) (0) (⟨#[]⟩) ([⟨#[97]⟩]) ([V.mk (3) (0) (⟨#[97, 98]⟩) ([]) ([])])), V.mk (3) (0) (⟨#[97, 98]⟩) ([]) ([])])) (10), Ro.mk (V.mk 5 0 ⟨#[]⟩ ([sHashes, sLength]) ([(V.mk (5) (0) (⟨#[]⟩) ([⟨#[97]⟩]) ([V.mk (3) (0) (⟨#[97, 98]⟩) ([]) ([])])), V.mk (2) (-1) (⟨#[]⟩) ([]) ([])])) (1), Ro.mk (V.mk 5 0 ⟨#[]⟩ ([sHashes, sLength]) ([V.mk (5) (0) (⟨#[]⟩) ([]) ([]), V.mk (2) (1) (⟨#[]⟩) ([]) ([])])) (4), Ro.mk (V.mk 5 0 ⟨#[]⟩ ([sHashes, sLength]) ([V.mk (2) (1) (⟨#[]⟩) ([]) ([]), V.mk (2) (1) (⟨#[]⟩) ([]) ([])])) (10), Ro.mk (V.mk 5 0 ⟨#[]⟩ ([sCustom, sHashes, sLength]) ([V.mk (5) (0) (⟨#[]⟩) ([]) ([]), (V.mk (5) (0) (⟨#[]⟩) ([⟨#[97]⟩]) ([V.mk (3) (0) (⟨#[97, 98]⟩) ([]) ([])])), V.mk (2) (1) (⟨#[]⟩) ([]) ([])])) (0), Ro.mk (V.mk 5 0 ⟨#[]⟩ ([⟨#[99, 117, 115, 116, 111, 109, 115]⟩, sHashes, sLength]) ([V.mk (5) (0) (⟨#[]⟩) ([]) ([]), (V.mk (5) (0) (⟨#[]⟩) ([⟨#[97]⟩]) ([V.mk (3) (0) (⟨#[97, 98]⟩) ([]) ([])])), V.mk (2) (1) (⟨#[]⟩) ([]) ([])])) (11), Ro.mk (V.mk 5 0 ⟨#[]⟩ ([sCustom, sHashes, sLength]) ([V.mk (5) (0) (⟨#[]⟩) ([]) ([]), V.mk 5 0 ⟨#[]⟩ ([⟨#[97]⟩, ⟨#[98, 32, 98]⟩]) ([V.mk (2) (1) (⟨#[]⟩) ([]) ([]), V.mk (3) (0) (⟨#[97, 98]⟩) ([]) ([])]), V.mk (2) (1) (⟨#[]⟩) ([]) ([])])) (10), Ro.mk (V.mk 5 0 ⟨#[]⟩ ([⟨#[97]⟩, sHashes, sLength]) ([V.mk (5) (0) (⟨#[]⟩) ([]) ([]), V.mk 5 0 ⟨#[]⟩ ([⟨#[97, 32, 97]⟩]) ([V.mk (2) (1) (⟨#[]⟩) ([]) ([])]), V.mk (2) (1) (⟨#[]⟩) ([]) ([])])) (3), Ro.mk (V.mk 5 0 ⟨#[]⟩ ([sHashes, sLength]) ([V.mk 5 0 ⟨#[]⟩ ([⟨#[97]⟩, ⟨#[98]⟩, ⟨#[99]⟩, ⟨#[100]⟩, ⟨#[101]⟩]) ([V.mk (3) (0) (⟨#[97, 98]⟩) ([]) ([]), V.mk (3) (0) (⟨#[97, 98]⟩) ([]) ([]), V.mk (3) (0) (⟨#[97, 98]⟩) ([]) ([]), V.mk (3) (0) (⟨#[97, 98]⟩) ([]) ([]), V.mk (3) (0) (⟨#[97, 98]⟩) ([]) ([])]), V.mk (2) (1) (⟨#[]⟩) ([]) ([])])) (5)])) (sp_bsl (ds := [Ro.d (Ro.mk (V.mk (0) (0) (⟨#[]⟩) ([]) ([])) (3)), Ro.d (Ro.mk (V.mk (2) (1) (⟨#[]⟩) ([]) ([])) (10)), Ro.d (Ro.mk (V.mk (5) (0) (⟨#[]⟩) ([]) ([])) (6)), Ro.d (Ro.mk (V.mk 5 0 ⟨#[]⟩ ([sLength]) ([V.mk (2) (1) (⟨#[]⟩) ([]) ([])])) (6)), Ro.d (Ro.mk (V.mk 5 0 ⟨#[]⟩ ([sHashes]) ([(V.mk (5) (0) (⟨#[]⟩) ([⟨#[97]⟩]) ([V.mk (3) (0) (⟨#[97, 98]⟩) ([]) ([])]))])) (6)), Ro.d (Ro.mk (V.mk 5 0 ⟨#[]⟩ ([sHashes, sLength]) ([(V.mk (5) (0) (⟨#[]⟩) ([⟨#[97]⟩]) ([V.mk (3) (0) (⟨#[97, 98]⟩) ([]) ([])])), V.mk (2) (1) (⟨#[]⟩) ([]) ([])])) (0)), Ro.d (Ro.mk (V.mk 5 0 ⟨#[]⟩ ([sHashes, sLength]) ([(V.mk (5) (0) (⟨#[]⟩) ([⟨#[97]⟩]) ([V.mk (3) (0) (⟨#[97, 98]⟩) ([]) ([])])), V.mk (3) (0) (⟨#[97, 98]⟩) ([]) ([])])) (10)), Ro.d (Ro.mk (V.mk 5 0 ⟨#[]⟩ ([sHashes, sLength]) ([(V.mk (5) (0) (⟨#[]⟩) ([⟨#[97]⟩]) ([V.mk (3) (0) (⟨#[97, 98]⟩) ([]) ([])])), V.mk (2) (-1) (⟨#[]⟩) ([]) ([])])) (1)), Ro.d (Ro.mk (V.mk 5 0 ⟨#[]⟩ ([sHashes, sLength]) ([V.mk (5) (0) (⟨#[]⟩) ([]) ([]), V.mk (2) (1) (⟨#[]⟩) ([]) ([])])) (4)), Ro.d (Ro.mk (V.mk 5 0 ⟨#[]⟩ ([sHashes, sLength]) ([V.mk (2) (1) (⟨#[]⟩) ([]) ([]), V.mk (2) (1) (⟨#[]⟩) ([]) ([])])) (10)), Ro.d (Ro.mk (V.mk 5 0 ⟨#[]⟩ ([sCustom, sHashes, sLength]) ([V.mk (5) (0) (⟨#[]⟩) ([]) ([]), (V.mk (5) (0) (⟨#[]⟩) ([⟨#[97]⟩]) ([V.mk (3) (0) (⟨#[97, 98]⟩) ([]) ([])])), V.mk (2) (1) (⟨#[]⟩) ([]) ([])])) (0)), Ro.d (Ro.mk (V.mk 5 0 ⟨#[]⟩ ([⟨#[99, 117, 115, 116, 111, 109, 115]⟩, sHashes, sLength]) ([V.mk (5) (0) (⟨#[]⟩) ([]) ([]), (V.mk (5) (0) (⟨#[]⟩) ([⟨#[97]⟩]) ([V.mk (3) (0) (⟨#[97, 98]⟩) ([]) ([])])), V.mk (2) (1) (⟨#[]⟩) ([]) ([])])) (11)), Ro.d (Ro.mk (V.mk 5 0 ⟨#[]⟩ ([sCustom, sHashes, sLength]) ([V.mk (5) (0) (⟨#[]⟩) ([]) ([]), V.mk 5 0 ⟨#[]⟩ ([⟨#[97]⟩, ⟨#[98, 32, 98]⟩]) ([V.mk (2) (1) (⟨#[]⟩) ([]) ([]), V.mk (3) (0) (⟨#[97, 98]⟩) ([]) ([])]), V.mk (2) (1) (⟨#[]⟩) ([]) ([])])) (10)), Ro.d (Ro.mk (V.mk 5 0 ⟨#[]⟩ ([⟨#[97]⟩, sHashes, sLength]) ([V.mk (5) (0) (⟨#[]⟩) ([]) ([]), V.mk 5 0 ⟨#[]⟩ ([⟨#[97, 32, 97]⟩]) ([V.mk (2) (1) (⟨#[]⟩) ([]) ([])]), V.mk (2) (1) (⟨#[]⟩) ([]) ([])])) (3)), Ro.d (Ro.mk (V.mk 5 0 ⟨#[]⟩ ([sHashes, sLength]) ([V.mk 5 0 ⟨#[]⟩ ([⟨#[97]⟩, ⟨#[98]⟩, ⟨#[99]⟩, ⟨#[100]⟩, ⟨#[101]⟩]) ([V.mk (3) (0) (⟨#[97, 98]⟩) ([]) ([]), V.mk (3) (0) (⟨#[97, 98]⟩) ([]) ([]), V.mk (3) (0) (⟨#[97, 98]⟩) ([]) ([]), V.mk (3) (0) (⟨#[97, 98]⟩) ([]) ([]), V.mk (3) (0) (⟨#[97, 98]⟩) ([]) ([])]), V.mk (2) (1) (⟨#[]⟩) ([]) ([])])) (5))]) Try.underlying120 sz118 z118 (lbr rfl) (lbr rfl) ⟨rfl, ((hlc rfl).dat (rdRo_mk (rdV_mk (lbr rfl) (rd_nil _) (rd_nil _) : Rd W130 (SF w [b12_129, b11_126, b10_122, b9_122, b8_116, b6_37]) (V.d (V.mk (0) (0) (⟨#[]⟩) ([]) ([]))) _) : Rd W130 (SF w [b12_129, b11_126, b10_122, b9_122, b8_116, b6_37]) (Ro.d (Ro.mk (V.mk (0) (0) (⟨#[]⟩) ([]) ([])) (3))) _) sub_all), ⟨rfl, ((hlc rfl).dat (rdRo_mk (rdV_mk (lbr rfl) (rd_nil _) (rd_nil _) : Rd W130 (SF w [b12_129, b11_126, b10_122, b9_122, b8_116, b6_37]) (V.d (V.mk (2) (1) (⟨#[]⟩) ([]) ([]))) _) : Rd W130 (SF w [b12_129, b11_126, b10_122, b9_122, b8_116, b6_37]) (Ro.d (Ro.mk (V.mk (2) (1) (⟨#[]⟩) ([]) ([])) (10))) _) sub_all), ⟨rfl, ((hlc rfl).dat (rdRo_mk (rdV_mk (lbr rfl) (rd_nil _) (rd_nil _) : Rd W130 (SF w [b12_129, b11_126, b10_122, b9_122, b8_116, b6_37]) (V.d (V.mk (5) (0) (⟨#[]⟩) ([]) ([]))) _) : Rd W130 (SF w [b12_129, b11_126, b10_122, b9_122, b8_116, b6_37]) (Ro.d (Ro.mk (V.mk (5) (0) (⟨#[]⟩) ([]) ([])) (6))) _) sub_all), ⟨rfl, (hlc rfl), ⟨rfl, (hlc rfl), ⟨rfl, (hlc rfl), ⟨rfl, (hlc rfl), ⟨rfl, (hlc rfl), ⟨rfl, (hlc rfl), ⟨rfl, (hlc rfl), ⟨rfl, (hlc rfl), ⟨rfl, (hlc rfl), ⟨rfl, (hlc rfl), ⟨rfl, (hlc rfl), ⟨rfl, (hlc rfl), trivial⟩⟩⟩⟩⟩⟩⟩⟩⟩⟩⟩⟩⟩⟩⟩ rfl (by intro e he; simp at he; rcases he with rfl | rfl | rfl | rfl | rfl | rfl | rfl | rfl | rfl | rfl | rfl | rfl | rfl | rfl | rfl <;> exact width_Ro _) (fr_sf kw (in_cons own_b12_129.lt (in_cons own_b11_126.lt (in_cons own_b10_122.lt (in_cons own_b9_122.lt (in_cons own_b8_116.lt (in_cons own_b6_37.lt in_nil)))))))) ?_
     refine .i (sp_lenL Try.underlying120 (hlc rfl)) ?_
     refine .i (sp_move Has.cst) ?_
     refine .done ⟨by kernel_rfl, fun a133 g W133 y133 zz133 hk hg hV hR hP => ?_⟩
     obtain ⟨e255, e254, e253, -, -, -, -, -, -, -, -, -, -, -, -, -, -, -, -, -, -, -, -, -, -, -, -, -, -, -, -, -, -, -, -, -, -, -, -, -, -, -, -, -, -, -, -, -, -, -, -, -, -, -, -, -, -, -, -, -, -, -, -, -, -, -, -, -, -, -, -, -, -, -, -, -, -, -, -, -, -, -, -, -, -, -, -, -, -, -, -, -, -, -, -, -, -, -⟩ := hV
     replace D_cn157_126 := D_cn157_126.ext hk
     replace D_ci157_126 := D_ci157_126.ext hk
     obtain ⟨v253_133, ev⟩ : ∃ v, sl a133 253 = v := ⟨_, rfl⟩
     rw [ev] at e253
     have D_v253_133 : Rd W133 (SF w [b12_129, b11_126, b10_122, b9_122, b8_116, b6_37]) (rosD ([Ro.mk (V.mk (0) (0) (⟨#[]⟩) ([]) ([])) (3), Ro.mk (V.mk (2) (1) (⟨#[]⟩) ([]) ([])) (10), Ro.mk (V.mk (5) (0) (⟨#[]⟩) ([]) ([])) (6), Ro.mk (V.mk 5 0 ⟨#[]⟩ ([sLength]) ([V.mk (2) (1) (⟨#[]⟩) ([]) ([])])) (6), Ro.mk (V.mk 5 0 ⟨#[]⟩ ([sHashes]) ([(V.mk (5) (0) (⟨#[]⟩) ([⟨#[97]⟩]) ([V.mk (3) (0) (⟨#[97, 98]⟩) ([]) ([])]))])) (6), Ro.mk (V.mk 5 0 ⟨#[]⟩ ([sHashes, sLength]) ([(V.mk (5) (0) (⟨#[]⟩) ([⟨#[97]⟩]) ([V.mk (3) (0) (⟨#[97, 98]⟩) ([]) ([])])), V.mk (2) (1) (⟨#[]⟩) ([]) ([])])) (0), Ro.mk (V.mk 5 0 ⟨#[]⟩ ([sHashes, sLength]) ([(V.mk (5) (0) (⟨#[]⟩) ([⟨#[97]⟩]) ([V.mk (3) (0) (⟨#[97, 98]⟩) ([]) ([])])), V.mk (3) (0) (⟨#[97, 98]⟩) ([]) ([])])) (10), Ro.mk (V.mk 5 0 ⟨#[]⟩ ([sHashes, sLength]) ([(V.mk (5) (0) (⟨#[]⟩) ([⟨#[97]⟩]) ([V.mk (3) (0) (⟨#[97, 98]⟩) ([]) ([])])), V.mk (2) (-1) (⟨#[]⟩) ([]) ([])])) (1), Ro.mk (V.mk 5 0 ⟨#[]⟩ ([sHashes, sLength]) ([V.mk (5) (0) (⟨#[]⟩) ([]) ([]), V.mk (2) (1) (⟨#[]⟩) ([]) ([])])) (4), Ro.mk (V.mk 5 0 ⟨#[]⟩ ([sHashes, sLength]) ([V.mk (2) (1) (⟨#[]⟩) ([]) ([]), V.mk (2) (1) (⟨#[]⟩) ([]) ([])])) (10), Ro.mk (V.mk 5 0 ⟨#[]⟩ ([sCustom, sHashes, sLength]) ([V.mk (5) (0) (⟨#[]⟩) ([]) ([]), (V.mk (5) (0) (⟨#[]⟩) ([⟨#[97]⟩]) ([V.mk (3) (0) (⟨#[97, 98]⟩) ([]) ([])])), V.mk (2) (1) (⟨#[]⟩) ([]) ([])])) (0), Ro.mk (V.mk 5 0 ⟨#[]⟩ ([⟨#[99, 117, 115, 116, 111, 109, 115]⟩, sHashes, sLength]) ([V.mk (5) (0) (⟨#[]⟩) ([]) ([]), (V.mk (5) (0) (⟨#[]⟩) ([⟨#[97]⟩]) ([V.mk (3) (0) (⟨#[97, 98]⟩) ([]) ([])])), V.mk (2) (1) (⟨#[]⟩) ([]) ([])])) (11), Ro.mk (V.mk 5 0 ⟨#[]⟩ ([sCustom, sHashes, sLength]) ([V.mk (5) (0) (⟨#[]⟩) ([]) ([]), V.mk 5 0 ⟨#[]⟩ ([⟨#[97]⟩, ⟨#[98, 32, 98]⟩]) ([V.mk (2) (1) (⟨#[]⟩) ([]) ([]), V.mk (3) (0) (⟨#[97, 98]⟩) ([]) ([])]), V.mk (2) (1) (⟨#[]⟩) ([]) ([])])) (10), Ro.mk (V.mk 5 0 ⟨#[]⟩ ([⟨#[97]⟩, sHashes, sLength]) ([V.mk (5) (0) (⟨#[]⟩) ([]) ([]), V.mk 5 0 ⟨#[]⟩ ([⟨#[97, 32, 97]⟩]) ([V.mk (2) (1) (⟨#[]⟩) ([]) ([])]), V.mk (2) (1) (⟨#[]⟩) ([]) ([])])) (3), Ro.mk (V.mk 5 0 ⟨#[]⟩ ([sHashes, sLength]) ([V.mk 5 0 ⟨#[]⟩ ([⟨#[97]⟩, ⟨#[98]⟩, ⟨#[99]⟩, ⟨#[100]⟩, ⟨#[101]⟩]) ([V.mk (3) (0) (⟨#[97, 98]⟩) ([]) ([]), V.mk (3) (0) (⟨#[97, 98]⟩) ([]) ([]), V.mk (3) (0) (⟨#[97, 98]⟩) ([]) ([]), V.mk (3) (0) (⟨#[97, 98]⟩) ([]) ([]), V.mk (3) (0) (⟨#[97, 98]⟩) ([]) ([])]), V.mk (2) (1) (⟨#[]⟩) ([]) ([])])) (5)])) v253_133 := sf_end e253 hk [] in_nil
     replace e253 := ev; clear ev
     obtain ⟨v253_133a, v253_133c, ev, D2⟩ := rdRos_out D_v253_133
     subst ev; replace D_v253_133 := D2; clear D2
     replace e254 := e254.q
     have e255 : sl a133 255 = (.int .i64 (0)) := e255
     replace own_b6_37 := own_b6_37.ext hk
     replace own_b8_116 := own_b8_116.ext hk
     replace own_b10_122 := own_b10_122.ext hk
     replace own_b9_122 := own_b9_122.ext hk
     replace own_b11_126 := own_b11_126.ext hk
     replace own_b12_129 := own_b12_129.ext hk
     replace kw := kw.x hk
     clear hR hk hg hP
     obtain ⟨L2, hL2⟩ : ∃ L, L = [Ro.mk (V.mk (0) (0) (⟨#[]⟩) ([]) ([])) (3), Ro.mk (V.mk (2) (1) (⟨#[]⟩) ([]) ([])) (10), Ro.mk (V.mk (5) (0) (⟨#[]⟩) ([]) ([])) (6), Ro.mk (V.mk 5 0 ⟨#[]⟩ ([sLength]) ([V.mk (2) (1) (⟨#[]⟩) ([]) ([])])) (6), Ro.mk (V.mk 5 0 ⟨#[]⟩ ([sHashes]) ([(V.mk (5) (0) (⟨#[]⟩) ([⟨#[97]⟩]) ([V.mk (3) (0) (⟨#[97, 98]⟩) ([]) ([])]))])) (6), Ro.mk (V.mk 5 0 ⟨#[]⟩ ([sHashes, sLength]) ([(V.mk (5) (0) (⟨#[]⟩) ([⟨#[97]⟩]) ([V.mk (3) (0) (⟨#[97, 98]⟩) ([]) ([])])), V.mk (2) (1) (⟨#[]⟩) ([]) ([])])) (0), Ro.mk (V.mk 5 0 ⟨#[]⟩ ([sHashes, sLength]) ([(V.mk (5) (0) (⟨#[]⟩) ([⟨#[97]⟩]) ([V.mk (3) (0) (⟨#[97, 98]⟩) ([]) ([])])), V.mk (3) (0) (⟨#[97, 98]⟩) ([]) ([])])) (10), Ro.mk (V.mk 5 0 ⟨#[]⟩ ([sHashes, sLength]) ([(V.mk (5) (0) (⟨#[]⟩) ([⟨#[97]⟩]) ([V.mk (3) (0) (⟨#[97, 98]⟩) ([]) ([])])), V.mk (2) (-1) (⟨#[]⟩) ([]) ([])])) (1), Ro.mk (V.mk 5 0 ⟨#[]⟩ ([sHashes, sLength]) ([V.mk (5) (0) (⟨#[]⟩) ([]) ([]), V.mk (2) (1) (⟨#[]⟩) ([]) ([])])) (4), Ro.mk (V.mk 5 0 ⟨#[]⟩ ([sHashes, sLength]) ([V.mk (2) (1) (⟨#[]⟩) ([]) ([]), V.mk (2) (1) (⟨#[]⟩) ([]) ([])])) (10), Ro.mk (V.mk 5 0 ⟨#[]⟩ ([sCustom, sHashes, sLength]) ([V.mk (5) (0) (⟨#[]⟩) ([]) ([]), (V.mk (5) (0) (⟨#[]⟩) ([⟨#[97]⟩]) ([V.mk (3) (0) (⟨#[97, 98]⟩) ([]) ([])])), V.mk (2) (1) (⟨#[]⟩) ([]) ([])])) (0), Ro.mk (V.mk 5 0 ⟨#[]⟩ ([⟨#[99, 117, 115, 116, 111, 109, 115]⟩, sHashes, sLength]) ([V.mk (5) (0) (⟨#[]⟩) ([]) ([]), (V.mk (5) (0) (⟨#[]⟩) ([⟨#[97]⟩]) ([V.mk (3) (0) (⟨#[97, 98]⟩) ([]) ([])])), V.mk (2) (1) (⟨#[]⟩) ([]) ([])])) (11), Ro.mk (V.mk 5 0 ⟨#[]⟩ ([sCustom, sHashes, sLength]) ([V.mk (5) (0) (⟨#[]⟩) ([]) ([]), V.mk 5 0 ⟨#[]⟩ ([⟨#[97]⟩, ⟨#[98, 32, 98]⟩]) ([V.mk (2) (1) (⟨#[]⟩) ([]) ([]), V.mk (3) (0) (⟨#[97, 98]⟩) ([]) ([])]), V.mk (2) (1) (⟨#[]⟩) ([]) ([])])) (10), Ro.mk (V.mk 5 0 ⟨#[]⟩ ([⟨#[97]⟩, sHashes, sLength]) ([V.mk (5) (0) (⟨#[]⟩) ([]) ([]), V.mk 5 0 ⟨#[]⟩ ([⟨#[97, 32, 97]⟩]) ([V.mk (2) (1) (⟨#[]⟩) ([]) ([])]), V.mk (2) (1) (⟨#[]⟩) ([]) ([])])) (3), Ro.mk (V.mk 5 0 ⟨#[]⟩ ([sHashes, sLength]) ([V.mk 5 0 ⟨#[]⟩ ([⟨#[97]⟩, ⟨#[98]⟩, ⟨#[99]⟩, ⟨#[100]⟩, ⟨#[101]⟩]) ([V.mk (3) (0) (⟨#[97, 98]⟩) ([]) ([]), V.mk (3) (0) (⟨#[97, 98]⟩) ([]) ([]), V.mk (3) (0) (⟨#[97, 98]⟩) ([]) ([]), V.mk (3) (0) (⟨#[97, 98]⟩) ([]) ([]), V.mk (3) (0) (⟨#[97, 98]⟩) ([]) ([])]), V.mk (2) (1) (⟨#[]⟩) ([]) ([])])) (5)] := ⟨_, rfl⟩
     rw [← hL2] at e253 e254 D_v253_133
     have hall2 : L2.all rowR = true := by rw [hL2]; kernel_rfl
     have hlen2 : L2.length = 15 := by rw [hL2]; rfl
     clear hL2
     refine tail_nil (hK132 _ _ ?_)
     refine wp_block ?_
     replace D_v253_133 := sf_less (M' := []) D_v253_133 ls_nil
     refine wp_for (L2.length) (fun k a W => a.tmps.size = 280 ∧ a.defers = [] ∧ Keeps All w W ∧ sl a 253 = (.slice v253_133a (L2.length) v253_133c) ∧ sl a 254 = (.int .i64 (L2.length)) ∧ sl a 255 = (.int .i64 ((k : Nat))) ∧ Rd W (SF w []) (rosD (L2)) (.slice v253_133a (L2.length) v253_133c)) ⟨y133, zz133, kw, e253, e254, (e255.trans (congrArg (Value.int .i64) (rfl))), D_v253_133⟩ ?_
     clear kw e253 e254 e255 D_v253_133
     rintro k a134 W134 hkk ⟨y134, zz134, kw, e253, e254, e255, D_v253_133⟩
     refine wp_seq_k fun K135 hK135 => ?_
     refine rg mixed y134 zz134 ?_
     refine .i (sp_lss (hbs rfl e255) (hbs rfl e254)) ?_
     refine .done ⟨by kernel_rfl, fun a136 g W136 y136 zz136 hk hg hV hR hP => ?_⟩
     obtain ⟨e256, -⟩ := hV
     replace e253 := (hR 253 rfl).trans e253
     replace e254 := (hR 254 rfl).trans e254
     replace e255 := (hR 255 rfl).trans e255
     replace D_v253_133 := D_v253_133.ext hk
     replace e256 := e256.q
     replace kw := kw.x hk
     clear hR hk hg hP
     refine tail_nil (hK135 _ _ ?_)
     refine wp_seq_k fun K137 hK137 => ?_
     refine wp_cond_split e256 (fun hc => ?_) (fun hc => ?_)
     ·
      have hlt : k < L2.length := by simpa using hc
      have hro := rowR_get hall2 hlt
      refine wp_skip (hK137 _ _ ?_)
      refine wp_seq_k fun K138 hK138 => ?_
      refine wp_block ?_
      refine wp_seq_k fun K139 hK139 => ?_
      refine rg mixed y136 zz136 ?_
      refine .rf (X := SF w []) (e := Ro.d (L2[k]'hlt)) (sp_indexL (i := k) ((hbs rfl e253).dat D_v253_133 sub_all) (hbs rfl e255) Try.underlying120 sz118 rfl hlt) ?_
      refine .da (X := SF w []) (e := Ro.d (L2[k]'hlt)) (sp_loadR (hlc rfl) agg118 sz118 (width_Ro _)) ?_
      refine .alloc z118 ?_
      refine .done ⟨by kernel_rfl, fun a140 g W140 y140 zz140 hk hg hV hR hP => ?_⟩
      obtain ⟨⟨b14_140, e14, hb14, own_b14_140⟩, e258, -, -⟩ := hV
      have lo_b14_140 : w.heap.size ≤ b14_140 := Nat.le_trans kw.size (hg.lo _ _ hb14)
      have own_b14_140 : Own W140 b14_140 [(.int .u8 (0)), (.int .i64 (0)), (.string (⟨#[]⟩)), (.slice none 0 0), (.slice none 0 0), (.int .i64 (0))] 118 := own_b14_140
      replace e253 := (hR 253 rfl).trans e253
      replace e254 := (hR 254 rfl).trans e254
      replace e255 := (hR 255 rfl).trans e255
      replace D_v253_133 := sf_more D_v253_133 hk [b14_140] (in_cons (hg.lo _ _ hb14) in_nil)
      obtain ⟨v258_140, ev⟩ : ∃ v, sl a140 258 = v := ⟨_, rfl⟩
      rw [ev] at e258
      have D_v258_140 : Rd W140 (SF w [b14_140]) (Ro.d (L2[k]'hlt)) v258_140 := sf_end e258 hk [b14_140] (in_cons ⟨_, hb14⟩ in_nil)
      replace e258 := ev; clear ev
      obtain ⟨v258_140_3a, v258_140_3c, v258_140_4a, v258_140_4c, ev, hb_v258_140_2, D_v258_140_3, D_v258_140_4⟩ := rdRo_out D_v258_140
      subst ev; clear D_v258_140
      replace kw := kw.x hk
      clear hR hk hg hP hb14
      refine tail_store (b := b14_140) (o := 0) (v := (.agg #[(.int .u8 ((L2[k]'hlt).v.k)), (.int .i64 ((L2[k]'hlt).v.n)), (.string ((L2[k]'hlt).v.t)), (.slice v258_140_3a (((L2[k]'hlt).v.ns).length) v258_140_3c), (.slice v258_140_4a (((L2[k]'hlt).v.xs).length) v258_140_4c), (.int .i64 ((L2[k]'hlt).e))])) e14 e258 sz118 rfl own_b14_140 (lbr rfl) (all_cons rfl (all_cons rfl (all_cons rfl (all_cons rfl (all_cons rfl (all_cons rfl all_nil)))))) (fun W141 hs own_b14_140 => ?_)
      have own_b14_140 : Own W141 b14_140 [(.int .u8 ((L2[k]'hlt).v.k)), (.int .i64 ((L2[k]'hlt).v.n)), (.string ((L2[k]'hlt).v.t)), (.slice v258_140_3a (((L2[k]'hlt).v.ns).length) v258_140_3c), (.slice v258_140_4a (((L2[k]'hlt).v.xs).length) v258_140_4c), (.int .i64 ((L2[k]'hlt).e))] 118 := own_b14_140
      replace D_v253_133 := sf_store D_v253_133 hs (by simp)
      replace D_v258_140_3 := sf_store D_v258_140_3 hs (by simp)
      replace D_v258_140_4 := sf_store D_v258_140_4 hs (by simp)
      replace kw := keeps_store kw hs lo_b14_140
      clear hs
      refine tail_nil (hK139 _ _ ?_)
      refine wp_seq_k fun K142 hK142 => ?_
      refine rg mixed y140 zz140 ?_
      refine .i (fo 0 (hbs rfl e14) Try.underlying118 rfl sz33 rfl) ?_
      refine .i (v := (.agg #[(.int .u8 ((L2[k]'hlt).v.k)), (.int .i64 ((L2[k]'hlt).v.n)), (.string ((L2[k]'hlt).v.t)), (.slice v258_140_3a (((L2[k]'hlt).v.ns).length) v258_140_3c), (.slice v258_140_4a (((L2[k]'hlt).v.xs).length) v258_140_4c)])) (loA (hlc rfl) own_b14_140 trivial agg33 sz33 rfl rfl) ?_
      refine .op (φ := IsT (IsD (Fr W141) (Rc.d (ofRV ((L2[k]'hlt).v)))) (Is (.int .i64 (ofRE ((L2[k]'hlt).v))))) (st_t (st_d sub_all) (st_is _)) (sp_call1 (φ1 := IsD (SF w [b14_140]) (V.d ((L2[k]'hlt).v))) ent72 ((hlc rfl).dat (rdV_in (x := (L2[k]'hlt).v) hb_v258_140_2 D_v258_140_3 D_v258_140_4 : Rd W141 (SF w [b14_140]) (V.d ((L2[k]'hlt).v)) _) sub_all) (fun g u1 W hk hgk h1 => (recordOf_ok ((L2[k]'hlt).v) (Nat.le_trans hro.2.2 (by decide)) W _ _ (fun b o h => h.1.2.1) h1).mono (fun _ _ ⟨v, h1, h2, r1, h3, h4⟩ => ⟨v, h1, h2, r1, _, h3, fresh_d hk hgk h4, rfl⟩))) ?_
      refine .op (φ := IsT (IsD (Fr W141) (Rc.d (ofRV ((L2[k]'hlt).v)))) (Is (.int .i64 (ofRE ((L2[k]'hlt).v))))) (st_t (st_d sub_all) (st_is _)) (sp_move (hlc rfl)) ?_
      refine .da (X := Fr W141) (e := Rc.d (ofRV ((L2[k]'hlt).v))) (sp_ext2 (hlc rfl) rfl) ?_
      refine .i (v := (.int .i64 (ofRE ((L2[k]'hlt).v)))) (sp_ext2' (hlc rfl) rfl) ?_
      refine .alloc z87 ?_
      refine .done ⟨by kernel_rfl, fun a143 g W143 y143 zz143 hk hg hV hR hP => ?_⟩
      obtain ⟨⟨b15_143, e15, hb15, own_b15_143⟩, e264, e263, -, -, -, -, -⟩ := hV
      have lo_b15_143 : w.heap.size ≤ b15_143 := Nat.le_trans kw.size (hg.lo _ _ hb15)
      have ne_b14_140_b15_143 : b14_140 ≠ b15_143 := Nat.ne_of_lt (Nat.lt_of_lt_of_le own_b14_140.lt (hg.lo _ _ hb15))
      have own_b15_143 : Own W143 b15_143 [(.int .i64 (0)), (.slice none 0 0), (.int .u8 (0)), (.int .i64 (0)), (.string (⟨#[]⟩)), (.slice none 0 0), (.slice none 0 0)] 87 := own_b15_143
      replace e253 := (hR 253 rfl).trans e253
      replace e254 := (hR 254 rfl).trans e254
      replace e255 := (hR 255 rfl).trans e255
      replace e14 := (hR 14 rfl).trans e14
      replace D_v253_133 := sf_more D_v253_133 hk [b15_143] (in_cons (hg.lo _ _ hb15) in_nil)
      replace D_v258_140_3 := sf_more D_v258_140_3 hk [b15_143] (in_cons (hg.lo _ _ hb15) in_nil)
      replace D_v258_140_4 := sf_more D_v258_140_4 hk [b15_143] (in_cons (hg.lo _ _ hb15) in_nil)
      obtain ⟨v263_143, ev⟩ : ∃ v, sl a143 263 = v := ⟨_, rfl⟩
      rw [ev] at e263
      have D_v263_143 : Rd W143 (SF w [b15_143, b14_140]) (Rc.d (ofRV ((L2[k]'hlt).v))) v263_143 := fr_end (M := [b14_140]) e263 kw [b15_143] (in_cons ⟨_, hb15⟩ in_nil) (in_cons own_b14_140.lt in_nil)
      replace e263 := ev; clear ev
      obtain ⟨v263_143_1a, v263_143_1c, v263_143_5a, v263_143_5c, v263_143_6a, v263_143_6c, ev, hb_v263_143_4, D_v263_143_1, D_v263_143_5, D_v263_143_6⟩ := rdRc_out D_v263_143
      subst ev; clear D_v263_143
      have e264 : sl a143 264 = (.int .i64 (ofRE ((L2[k]'hlt).v))) := e264
      replace own_b14_140 := own_b14_140.ext hk
      replace kw := kw.x hk
      clear hR hk hg hP hb15
      refine tail_store (b := b15_143) (o := 0) (v := (.agg #[(.int .i64 ((ofRV ((L2[k]'hlt).v)).ln)), (.slice v263_143_1a (((ofRV ((L2[k]'hlt).v)).hs).length) v263_143_1c), (.int .u8 ((ofRV ((L2[k]'hlt).v)).cu.k)), (.int .i64 ((ofRV ((L2[k]'hlt).v)).cu.n)), (.string ((ofRV ((L2[k]'hlt).v)).cu.t)), (.slice v263_143_5a (((ofRV ((L2[k]'hlt).v)).cu.ns).length) v263_143_5c), (.slice v263_143_6a (((ofRV ((L2[k]'hlt).v)).cu.xs).length) v263_143_6c)])) e15 e263 sz87 rfl own_b15_143 (lbr rfl) (all_cons rfl (all_cons rfl (all_cons rfl (all_cons rfl (all_cons rfl (all_cons rfl (all_cons rfl all_nil))))))) (fun W144 hs own_b15_143 => ?_)
      have own_b15_143 : Own W144 b15_143 [(.int .i64 ((ofRV ((L2[k]'hlt).v)).ln)), (.slice v263_143_1a (((ofRV ((L2[k]'hlt).v)).hs).length) v263_143_1c), (.int .u8 ((ofRV ((L2[k]'hlt).v)).cu.k)), (.int .i64 ((ofRV ((L2[k]'hlt).v)).cu.n)), (.string ((ofRV ((L2[k]'hlt).v)).cu.t)), (.slice v263_143_5a (((ofRV ((L2[k]'hlt).v)).cu.ns).length) v263_143_5c), (.slice v263_143_6a (((ofRV ((L2[k]'hlt).v)).cu.xs).length) v263_143_6c)] 87 := own_b15_143
      replace own_b14_140 := own_store own_b14_140 hs ne_b14_140_b15_143
      replace D_v253_133 := sf_store D_v253_133 hs (by simp)
      replace D_v258_140_3 := sf_store D_v258_140_3 hs (by simp)
      replace D_v258_140_4 := sf_store D_v258_140_4 hs (by simp)
      replace D_v263_143_1 := sf_store D_v263_143_1 hs (by simp)
      replace D_v263_143_5 := sf_store D_v263_143_5 hs (by simp)
      replace D_v263_143_6 := sf_store D_v263_143_6 hs (by simp)
      replace kw := keeps_store kw hs lo_b15_143
      clear hs
      refine tail_assign (v := (.int .i64 (ofRE ((L2[k]'hlt).v)))) e264 (by rw [y143]; exact Nat.le_of_ble_eq_true rfl) (fun a145 y145 zz145 e16 hr => ?_)
      replace y145 := y145.trans y143; replace zz145 := zz145.trans zz143
      replace e253 := (hr 253 (by decide)).trans e253
      replace e254 := (hr 254 (by decide)).trans e254
      replace e255 := (hr 255 (by decide)).trans e255
      replace e14 := (hr 14 (by decide)).trans e14
      replace e15 := (hr 15 (by decide)).trans e15
      replace e263 := (hr 263 (by decide)).trans e263
      replace e264 := (hr 264 (by decide)).trans e264
      clear hr
      refine tail_nil (hK142 _ _ ?_)
      refine wp_seq_k fun K146 hK146 => ?_
      refine rg mixed y145 zz145 ?_
      refine .i (sp_move (hbs rfl e16)) ?_
      refine .i (fo 5 (hbs rfl e14) Try.underlying118 rfl sz28 rfl) ?_
      refine .i (lo1 (hlc rfl) own_b14_140 trivial agg28 sz28 rfl) ?_
      refine .i (sp_neq (hlc rfl) (hlc rfl)) ?_
      refine .i (sp_move (hlc rfl)) ?_
      refine .e (t := 269) rfl (hlc rfl) (fun hg => sp_move (hbs rfl e16)) ?_
      refine .e (t := 269) rfl (hlc rfl) (fun hg => sp_neq ((hlc rfl).undE hg) Has.cst) ?_
      refine .e (t := 269) rfl (hlc rfl) (fun hg => sp_move ((hlc rfl).undE hg)) ?_
      refine .opEE (t := 272) (x := (ofRE ((L2[k]'hlt).v) : Int) != (0 : Int)) (p := ((ofRE ((L2[k]'hlt).v) : Int) != ((L2[k]'hlt).e : Int)) = false) (φ := Is (.agg #[(.int .i64 ((ofRV ((L2[k]'hlt).v)).ln)), (.slice v263_143_1a (((ofRV ((L2[k]'hlt).v)).hs).length) v263_143_1c), (.int .u8 ((ofRV ((L2[k]'hlt).v)).cu.k)), (.int .i64 ((ofRV ((L2[k]'hlt).v)).cu.n)), (.string ((ofRV ((L2[k]'hlt).v)).cu.t)), (.slice v263_143_5a (((ofRV ((L2[k]'hlt).v)).cu.ns).length) v263_143_5c), (.slice v263_143_6a (((ofRV ((L2[k]'hlt).v)).cu.xs).length) v263_143_6c)])) rfl (hlc rfl) (st_is _) (fun hg => sp_loadO (v := (.agg #[(.int .i64 ((ofRV ((L2[k]'hlt).v)).ln)), (.slice v263_143_1a (((ofRV ((L2[k]'hlt).v)).hs).length) v263_143_1c), (.int .u8 ((ofRV ((L2[k]'hlt).v)).cu.k)), (.int .i64 ((ofRV ((L2[k]'hlt).v)).cu.n)), (.string ((ofRV ((L2[k]'hlt).v)).cu.t)), (.slice v263_143_5a (((ofRV ((L2[k]'hlt).v)).cu.ns).length) v263_143_5c), (.slice v263_143_6a (((ofRV ((L2[k]'hlt).v)).cu.xs).length) v263_143_6c)])) (hbs rfl e15) own_b15_143 trivial agg87 sz87 (lbr rfl) (fun h => by first | rfl | cases h) rfl) ?_
      refine .opEE (t := 272) (x := (ofRE ((L2[k]'hlt).v) : Int) != (0 : Int)) (p := ((ofRE ((L2[k]'hlt).v) : Int) != ((L2[k]'hlt).e : Int)) = false) (φ := Is (.agg #[(.int .i64 (0)), (.slice none 0 0), (.int .u8 (0)), (.int .i64 (0)), (.string (⟨#[]⟩)), (.slice none 0 0), (.slice none 0 0)])) rfl (hlc rfl) (st_is _) (fun hg => sp_build (vs := []) Try.underlying87 z87 (pl87 Try.underlying87) trivial rfl) ?_
      refine .opEE (t := 272) (x := (ofRE ((L2[k]'hlt).v) : Int) != (0 : Int)) (p := ((ofRE ((L2[k]'hlt).v) : Int) != ((L2[k]'hlt).e : Int)) = false) (φ := Is (.bool (sameR (ofRV ((L2[k]'hlt).v)) (Rc.mk (0) ([]) (V.mk (0) (0) (⟨#[]⟩) ([]) ([])))))) rfl (hlc rfl) (st_is _) (fun hg => sp_call2 (φ1 := IsD (SF w [b15_143, b14_140]) (Rc.d ((ofRV ((L2[k]'hlt).v))))) (φ2 := IsD (SF w [b15_143, b14_140]) (Rc.d (Rc.mk (0) ([]) (V.mk (0) (0) (⟨#[]⟩) ([]) ([]))))) ent73 (((hlc rfl).undE hg).dat (rdRc_mk D_v263_143_1 (rdV_in (x := (ofRV ((L2[k]'hlt).v)).cu) hb_v263_143_4 D_v263_143_5 D_v263_143_6 : Rd W144 (SF w [b15_143, b14_140]) (V.d ((ofRV ((L2[k]'hlt).v)).cu)) _) : Rd W144 (SF w [b15_143, b14_140]) (Rc.d ((ofRV ((L2[k]'hlt).v)))) _) sub_all) (((hlc rfl).undE hg).dat (rdRc_mk (rd_nil _) (rdV_mk (lbr rfl) (rd_nil _) (rd_nil _) : Rd W144 (SF w [b15_143, b14_140]) (V.d (V.mk (0) (0) (⟨#[]⟩) ([]) ([]))) _) : Rd W144 (SF w [b15_143, b14_140]) (Rc.d (Rc.mk (0) ([]) (V.mk (0) (0) (⟨#[]⟩) ([]) ([])))) _) sub_all) (fun g u1 u2 W hk hgk h1 h2 => refSameR_ok ((ofRV ((L2[k]'hlt).v))) (Rc.mk (0) ([]) (V.mk (0) (0) (⟨#[]⟩) ([]) ([]))) (Nat.le_trans (ofRV_wt _) (Nat.le_trans hro.2.2 (by decide))) (Nat.le_of_ble_eq_true (by kernel_rfl)) W _ _ _ h1 h2)) ?_
      refine .opEE (t := 272) (x := (ofRE ((L2[k]'hlt).v) : Int) != (0 : Int)) (p := ((ofRE ((L2[k]'hlt).v) : Int) != ((L2[k]'hlt).e : Int)) = false) (φ := Is (.bool (!(sameR (ofRV ((L2[k]'hlt).v)) (Rc.mk (0) ([]) (V.mk (0) (0) (⟨#[]⟩) ([]) ([]))))))) rfl (hlc rfl) (st_is _) (fun hg => sp_not ((hlc rfl).undE hg)) ?_
      refine .e (t := 269) rfl (hlc rfl) (fun hg => sp_and ((hlc rfl).undE hg) ((hlc rfl).weak fun hq => ⟨hg, hq⟩)) ?_
      refine .i (sp_or (hlc rfl) ((hlc rfl).weak fun hq => hq)) ?_
      refine .done ⟨by kernel_rfl, fun a147 g W147 y147 zz147 hk hg hV hR hP => ?_⟩
      obtain ⟨e278, -, -, -, -, -, -, -, -, -, -, -, -, -, -⟩ := hV
      replace e253 := (hR 253 rfl).trans e253
      replace e254 := (hR 254 rfl).trans e254
      replace e255 := (hR 255 rfl).trans e255
      replace D_v253_133 := D_v253_133.ext hk
      replace D_v258_140_3 := D_v258_140_3.ext hk
      replace D_v258_140_4 := D_v258_140_4.ext hk
      replace D_v263_143_1 := D_v263_143_1.ext hk
      replace D_v263_143_5 := D_v263_143_5.ext hk
      replace D_v263_143_6 := D_v263_143_6.ext hk
      replace e278 := e278.q
      replace own_b14_140 := own_b14_140.ext hk
      replace own_b15_143 := own_b15_143.ext hk
      replace kw := kw.x hk
      clear hR hk hg hP
      refine tail_nil (hK146 _ _ ?_)
      refine wp_cond_split e278 (fun hc => ?_) (fun hc => ?_)
      ·
       exfalso
       rw [hro.1] at hc
       rcases hro.2.1 with h | h
       · rw [hro.1] at h; simp [h] at hc
       · have h2 : sameR (ofRV (L2[k]).v) (Rc.mk 0 [] (V.mk 0 0 ⟨#[]⟩ [] [])) = true := h; rw [h2] at hc; simp at hc
      ·
       refine wp_skip (hK138 _ _ ?_)
       refine rg mixed y147 zz147 ?_
       refine .i (sp_add (hbs rfl e255) Has.cst (i64_in (by omega))) ?_
       refine .i (sp_move (hlc rfl)) ?_
       refine .done ⟨by kernel_rfl, fun a148 g W148 y148 zz148 hk hg hV hR hP => ?_⟩
       obtain ⟨e255, -, -⟩ := hV
       replace e253 := (hR 253 rfl).trans e253
       replace e254 := (hR 254 rfl).trans e254
       replace D_v253_133 := D_v253_133.ext hk
       replace e255 := e255.q
       replace own_b14_140 := own_b14_140.ext hk
       replace own_b15_143 := own_b15_143.ext hk
       replace kw := kw.x hk
       clear hR hk hg hP
       exact tail_nil ⟨hlt, y148, zz148, kw, e253, e254, (e255.trans (congrArg (Value.int .i64) (by simp))), (sf_less D_v253_133 ls_nil)⟩
     ·
      have hge0 : ¬ k < L2.length := by simpa using hc
      have hge : k = L2.length := by omega
      refine wp_exit (hK131 _ _ ?_)
      refine wp_seq_k fun K149 hK149 => ?_
      refine rg mixed y136 zz136 ?_
      refine .i (sp_assign Has.cst) ?_
      refine .done ⟨by kernel_rfl, fun a150 g W150 y150 zz150 hk hg hV hR hP => ?_⟩
      obtain ⟨e0, -⟩ := hV
      replace D_v253_133 := D_v253_133.ext hk
      have e0 : sl a150 0 = (.bool (true)) := e0
      replace kw := kw.x hk
      clear hR hk hg hP
      refine tail_nil (hK149 _ _ ?_)
      refine wp_ret ?_
      refine (show bodyPost Try.prog Try.f12 _ .ret _ _ from ret1 rfl zz150 e0 ⟨_, rfl, kw, ?_⟩)
      exact rfl
end Go.Proofs.Ytnobijngkpflcaa
namespace Go.Eng
open Go.ChangeShapes Go.WideShapes Go.ChangeAt Go.RowKit
section
variable {H : Type} {enc : TypeId × Value → H} {P : Program} {W : World}
theorem trodAll_stays (hl : laidOutB P = true) {W' : World} (hb : Below W.heap.size W W') : ∀ (ts : List TypeId) (vs : List Value) (ds : List (DataW H)) (ps : List MemPlace), (∀ t ∈ ts, P.readableRec t = true ∧ t < P.types.size) → (∀ x ∈ ps, x.block < W.heap.size) →
    DataW.TrodAll enc P W 0 (fun _ => true) true ts vs ds ps → DataW.TrodAll enc P W' 0 (fun b => decide (b < W.heap.size)) true ts vs ds ps
  | [], [], [], _, _, _, h => h
  | t :: ts, v :: vs, d :: ds, ps, ht, hlt, h => by
    obtain ⟨p, q, h1, h2, rfl⟩ := h
    exact ⟨p, q, Below.trod hl (ht t List.mem_cons_self).1 (ht t List.mem_cons_self).2 h1 hb (fun x hx => hlt x (List.mem_append_left _ hx)),
      trodAll_stays hl hb ts vs ds q (fun t h => ht t (List.mem_cons_of_mem _ h)) (fun x hx => hlt x (List.mem_append_right _ hx)) h2, rfl⟩
  | [], [], _ :: _, _, _, _, h => h.elim
  | [], _ :: _, _, _, _, _, h => h.elim
  | _ :: _, [], _, _, _, _, h => h.elim
  | _ :: _, _ :: _, [], _, _, _, h => h.elim
theorem law_post {f : Func} {s : ChangeSpec} {W' : World} {args : Array Value} {ds gs : List (DataW H)} {before : List MemPlace} {tb : TypeId} (hl : laidOutB P = true) (hpar : ∀ t ∈ f.params.toList, P.readableRec t = true ∧ t < P.types.size)
    (hvars : s.vars = []) (hrt : f.resultTypes = #[tb]) (hb : P.underlying tb = some .bool) (hfn : s.fn H (ds ++ gs) = { results := [.lit (.bool true)], args := ds })
    (hW : DataW.Whole enc P f.params.toList s.vars false W args.toList ds gs before) (hk : Ext W W') : s.post enc P f false true false false W args (.bool true) W' := by
  have hlt := hW.lt
  have hW' := hW
  obtain ⟨p, q, hA, hV, rfl, hfz, hnd⟩ := hW
  have hbel : Below W.heap.size W W' := ⟨hk.os, hk.tape, hk.output, hk.size, fun k h => hk.block k h trivial⟩
  refine ⟨ds, gs, p ++ q, [], p, [], hW', ?_, ?_, ?_, ?_, fun h => by cases h⟩
  · rw [hfn, hrt]
    exact ⟨[], [], ⟨1, by simp [Value.resultList, Value.cells, DataW.trod, hb]⟩, rfl, rfl⟩
  · rw [hfn]
    exact trodAll_stays hl hbel _ _ _ _ hpar (fun x hx => hlt x (List.mem_append_left _ hx)) hA
  · rw [hfn, hvars]; rfl
  · refine ⟨hk.os, hk.output, fun i hi => ?_⟩
    rw [hk.block i hi trivial]
    cases hq : W.heap[i]? with
    | none => rfl
    | some o => cases o <;> simp
end
end Go.Eng
namespace Go.Proofs.Ytnobijngkpflcaa
open Go.Eng Go.ChangeShapes Go.WideShapes Go.ChangeAt Go.RowKit
theorem Try.own : ownKnob Try.prog.godebug = none := by kernel_rfl
theorem Try.laidOut : laidOutB Try.prog = true := by kernel_rfl
set_option maxRecDepth 100000 in
theorem RecordNames_lifted (os : Os) (started : os.Started) (H : Type) (enc : TypeId × Value → H) :
    ReturnsInHanded {} Try.checked os 12 .any (Rows.recordNamesSpec.pre6 enc Try.prog Try.f12 Rows.recordNamesRow.domain false) (Rows.recordNamesSpec.post enc Try.prog Try.f12 false true false false) := by
  refine returnsInHanded_of_change (C := Try.checked) Try.own started (by kernel_rfl) Try.func12
    (ChangeSpec.witness6 (enc := enc) (C := Try.checked) false ⟨#[], #[], []⟩ 8 (by kernel_rfl) (by kernel_rfl) (by kernel_rfl) (by kernel_rfl)) ?_
  intro W base args ds gs before hval0 hW hcnd _
  have hval : ∀ (j : Nat) t v, Try.f12.params[j]? = some t → args[j]? = some v → Value.okWide Try.prog W .any base t v := hval0
  have hW' := hW
  obtain ⟨p, q, hA0, hV, rfl, hfz, hnd⟩ := hW
  have hA : DataW.TrodAll enc Try.prog W 0 (fun _ => true) true Try.f12.params.toList args.toList ds p := hA0
  rw [Try.params12] at hA hval
  obtain ⟨hargs, rfl, rfl⟩ := trodAll_nil hA
  have hargs : args = #[] := by simpa using hargs
  subst hargs
  obtain ⟨rfl, rfl⟩ := trodVars_none hV
  refine (RecordNames_ok W).mono fun e W' ⟨v, he, hk, hv⟩ => ?_
  subst hv
  exact ⟨_, he, law_post Try.laidOut (of_decide_eq_true (by kernel_rfl)) rfl (tb := 4) (by kernel_rfl) Try.underlying4 rfl hW' hk⟩
theorem recordNames_holds : Rows.RecordNamesSaid :=
  OpenClaim.holds_of_wide 12 Try.f12 rfl rfl rfl rfl rfl rfl rfl ⟨rfl, rfl, rfl, rfl, rfl⟩ rfl rfl rfl rfl rfl (by kernel_rfl) Try.func12 (by kernel_rfl)
    (of_decide_eq_true (by kernel_rfl)) (by unfold Func.isWrapper; first | (rw [if_pos (by decide +kernel)]; kernel_rfl) | (rw [if_neg (by decide +kernel)]; exact ⟨rfl, rfl⟩))
    (fun os started H enc _ => RecordNames_lifted os started H enc)
end Go.Proofs.Ytnobijngkpflcaa
