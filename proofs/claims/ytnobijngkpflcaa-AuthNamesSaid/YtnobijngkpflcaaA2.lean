import Derived.Test.YtnobijngkpflcaaA1
namespace Go.Proofs.Ytnobijngkpflcaa
open Go.Eng
set_option maxRecDepth 100000 in
theorem AuthNames_ok (w : World) : Calls Try.prog 3 #[] w (Ret w fun u _ => u = .bool true) := by
  refine enter Try.func3 rfl Try.ntmps3 (lbr rfl) fun a0 y0 zz0 harg => ?_
  have kw := Keeps.refl All w
  clear harg
  refine wp_seq_k fun K1 hK1 => ?_
  refine rg mixed y0 zz0 ?_
  refine .i (sp_assign Has.cst) ?_
  refine .done ⟨by kernel_rfl, fun a2 g W2 y2 zz2 hk hg hV hR hP => ?_⟩
  obtain ⟨-, -⟩ := hV
  replace kw := kw.x hk
  clear hR hk hg hP
  refine tail_nil (hK1 _ _ ?_)
  refine wp_seq_k fun K3 hK3 => ?_
  refine wp_seq_k fun K4 hK4 => ?_
  refine rg mixed y2 zz2 ?_
  refine .i (v := (.bool (true))) (sp_call0  ent14  (fun g  W hk hgk  => awakeA_ok W)) ?_
  refine .i (sp_not (hlc rfl)) ?_
  refine .i (sp_move (hlc rfl)) ?_
  refine .i (sp_and (hlc rfl) (Has.cst.toU)) ?_
  refine .i (sp_move (hlc rfl)) ?_
  refine .i (sp_and (hlc rfl) (Has.cst.toU)) ?_
  refine .done ⟨by kernel_rfl, fun a5 g W5 y5 zz5 hk hg hV hR hP => ?_⟩
  obtain ⟨e17, -, -, -, -, -, -⟩ := hV
  have e17 : sl a5 17 = (.bool (((!true) && true) && true)) := e17
  replace kw := kw.x hk
  clear hR hk hg hP
  refine tail_nil (hK4 _ _ ?_)
  refine wp_cond_false (e17.trans (congrArg Value.bool (by decide))) ?_
  refine wp_skip (hK3 _ _ ?_)
  refine wp_seq_k fun K6 hK6 => ?_
  refine rg mixed y5 zz5 ?_
  refine .i (sp_assign Has.cst) ?_
  refine .done ⟨by kernel_rfl, fun a7 g W7 y7 zz7 hk hg hV hR hP => ?_⟩
  obtain ⟨e1, -⟩ := hV
  have e1 : sl a7 1 = (.slice none 0 0) := e1
  replace kw := kw.x hk
  clear hR hk hg hP
  refine tail_nil (hK6 _ _ ?_)
  refine wp_seq_k fun K8 hK8 => ?_
  refine wp_seq_k fun K9 hK9 => ?_
  refine rg mixed y7 zz7 ?_
  refine .i (sp_assign Has.cst) ?_
  refine .done ⟨by kernel_rfl, fun a10 g W10 y10 zz10 hk hg hV hR hP => ?_⟩
  obtain ⟨e2, -⟩ := hV
  replace e1 := (hR 1 rfl).trans e1
  have e2 : sl a10 2 = (.int .i64 (0)) := e2
  replace kw := kw.x hk
  clear hR hk hg hP
  refine tail_nil (hK9 _ _ ?_)
  refine wp_block ?_
  have A_ar11 : Arr W10 w.heap.size 9 1 (SF w (blks none ++ [])) (List.map D.str ([])) (.slice none 0 0) none := arr_nil _ _ _ _ _
  refine wp_for (17) (fun k a W => ∃ (vs1_12 : Value), ∃ (hds1_12 : Option Nat), a.tmps.size = 196 ∧ a.defers = [] ∧ Keeps All w W ∧ sl a 1 = vs1_12 ∧ sl a 2 = (.int .i64 ((k : Nat))) ∧ Arr W w.heap.size 9 1 (SF w (blks hds1_12 ++ [])) (List.map D.str (allK k)) vs1_12 hds1_12) ⟨(.slice none 0 0), none, y10, zz10, kw, e1, (e2.trans (congrArg (Value.int .i64) (rfl))), A_ar11⟩ ?_
  clear kw e1 e2 A_ar11
  rintro k a12 W12 hkk ⟨vs1_12, hds1_12, y12, zz12, kw, e1, e2, As1_12⟩
  refine wp_seq_k fun K13 hK13 => ?_
  refine wp_seq_k fun K14 hK14 => ?_
  refine rg mixed y12 zz12 ?_
  refine .i (sp_move (hbs rfl e2)) ?_
  refine .i (sp_lss (hlc rfl) Has.cst) ?_
  refine .done ⟨by kernel_rfl, fun a15 g W15 y15 zz15 hk hg hV hR hP => ?_⟩
  obtain ⟨e19, -, -⟩ := hV
  replace e1 := (hR 1 rfl).trans e1
  replace e2 := (hR 2 rfl).trans e2
  replace As1_12 := As1_12.ext hk
  replace e19 := e19.q
  replace kw := kw.x hk
  clear hR hk hg hP
  refine tail_nil (hK14 _ _ ?_)
  refine wp_cond_split e19 (fun hc => ?_) (fun hc => ?_)
  ·
   have hlt : k < 17 := by have := of_decide_eq_true hc; omega
   refine wp_skip (hK13 _ _ ?_)
   refine wp_seq_k fun K16 hK16 => ?_
   refine wp_block ?_
   refine wp_reg (fun k => k ∉ blks hds1_12) (Ψ := fun W => Arr W w.heap.size 9 1 (SF w (blks hds1_12 ++ [])) (List.map D.str (allK k)) vs1_12 hds1_12) mixed y15 zz15 (fun W W' k h => h.ext k) As1_12 ?_
   refine .i (sp_move (hbs rfl e1)) ?_
   refine .i (sp_move (hbs rfl e2)) ?_
   refine .i (v := (.int .u8 ((((⟨#[48, 49, 50, 51, 52, 53, 54, 55, 56, 57, 97, 98, 99, 100, 101, 102, 48]⟩ : ByteArray)[k]'hlt).toNat : Nat)))) (sp_indexStr (i := k) Try.underlying9 Has.cst (hlc rfl) rfl (by exact hlt)) ?_
   refine .i (v := (.string (ofBytes (List.replicate (lit 64) ((((⟨#[48, 49, 50, 51, 52, 53, 54, 55, 56, 57, 97, 98, 99, 100, 101, 102, 48]⟩ : ByteArray)[k]'hlt).toNat : Nat) : Int))))) (sp_call1 (φ1 := Is (.int .u8 ((((⟨#[48, 49, 50, 51, 52, 53, 54, 55, 56, 57, 97, 98, 99, 100, 101, 102, 48]⟩ : ByteArray)[k]'hlt).toNat : Nat)))) ent15 (hlc rfl) (fun g u1 W hk hgk h1 => by have h1 : u1 = _ := h1; subst u1; exact id_ok (((⟨#[48, 49, 50, 51, 52, 53, 54, 55, 56, 57, 97, 98, 99, 100, 101, 102, 48]⟩ : ByteArray)[k]'hlt).toNat : Nat) W)) ?_
   refine .i (v := (.string ((ofBytes (List.replicate (lit 64) ((((⟨#[48, 49, 50, 51, 52, 53, 54, 55, 56, 57, 97, 98, 99, 100, 101, 102, 48]⟩ : ByteArray)[k]'hlt).toNat : Nat) : Int))).extract 1 (ofBytes (List.replicate (lit 64) ((((⟨#[48, 49, 50, 51, 52, 53, 54, 55, 56, 57, 97, 98, 99, 100, 101, 102, 48]⟩ : ByteArray)[k]'hlt).toNat : Nat) : Int))).size))) (sp_sliceLo (i := 1) Try.underlying9 (hlc rfl) Has.cst rfl (id_lo _)) ?_
   refine .i (sp_move (hbs rfl e2)) ?_
   refine .i (v := (.int .u8 ((((⟨#[48, 49, 50, 51, 52, 53, 54, 55, 56, 57, 97, 98, 99, 100, 101, 102, 49]⟩ : ByteArray)[k]'hlt).toNat : Nat)))) (sp_indexStr (i := k) Try.underlying9 Has.cst (hlc rfl) rfl (by exact hlt)) ?_
   refine .op (φ := IsD (SF w (blks hds1_12 ++ [])) (bytesD ([(((⟨#[48, 49, 50, 51, 52, 53, 54, 55, 56, 57, 97, 98, 99, 100, 101, 102, 49]⟩ : ByteArray)[k]'hlt).toNat : Nat)]))) (st_d (sub_nbF (fun b hb => List.mem_append_left _ hb))) (sp_bsl (ds := [D.int .u8 ((((⟨#[48, 49, 50, 51, 52, 53, 54, 55, 56, 57, 97, 98, 99, 100, 101, 102, 49]⟩ : ByteArray)[k]'hlt).toNat : Nat))]) Try.underlying25 sz5 z5 (lbr rfl) (lbr rfl) ⟨rfl, (hlc rfl).int, trivial⟩ rfl (by simp [width]) (fr_sf kw (in_app As1_12.lt in_nil))) ?_
   refine .i (v := (.string (ofBytes ([(((⟨#[48, 49, 50, 51, 52, 53, 54, 55, 56, 57, 97, 98, 99, 100, 101, 102, 49]⟩ : ByteArray)[k]'hlt).toNat : Nat)])))) (sp_b2s Try.underlying25 Try.underlying5 Try.underlying9 (hlc rfl)) ?_
   refine .i (v := (.string (((ofBytes (List.replicate (lit 64) ((((⟨#[48, 49, 50, 51, 52, 53, 54, 55, 56, 57, 97, 98, 99, 100, 101, 102, 48]⟩ : ByteArray)[k]'hlt).toNat : Nat) : Int))).extract 1 (ofBytes (List.replicate (lit 64) ((((⟨#[48, 49, 50, 51, 52, 53, 54, 55, 56, 57, 97, 98, 99, 100, 101, 102, 48]⟩ : ByteArray)[k]'hlt).toNat : Nat) : Int))).size) ++ (ofBytes ([(((⟨#[48, 49, 50, 51, 52, 53, 54, 55, 56, 57, 97, 98, 99, 100, 101, 102, 49]⟩ : ByteArray)[k]'hlt).toNat : Nat)]))))) (sp_sAdd (hlc rfl) (hlc rfl) (by first | exact Nat.le_of_ble_eq_true (by kernel_rfl) | exact id_add _ _)) ?_
   refine .op (φ := IsD (SF w (blks hds1_12 ++ [])) (strsD ([((ofBytes (List.replicate (lit 64) ((((⟨#[48, 49, 50, 51, 52, 53, 54, 55, 56, 57, 97, 98, 99, 100, 101, 102, 48]⟩ : ByteArray)[k]'hlt).toNat : Nat) : Int))).extract 1 (ofBytes (List.replicate (lit 64) ((((⟨#[48, 49, 50, 51, 52, 53, 54, 55, 56, 57, 97, 98, 99, 100, 101, 102, 48]⟩ : ByteArray)[k]'hlt).toNat : Nat) : Int))).size) ++ (ofBytes ([(((⟨#[48, 49, 50, 51, 52, 53, 54, 55, 56, 57, 97, 98, 99, 100, 101, 102, 49]⟩ : ByteArray)[k]'hlt).toNat : Nat)]))]))) (st_d (sub_nbF (fun b hb => List.mem_append_left _ hb))) (sp_bsl (ds := [D.str (((ofBytes (List.replicate (lit 64) ((((⟨#[48, 49, 50, 51, 52, 53, 54, 55, 56, 57, 97, 98, 99, 100, 101, 102, 48]⟩ : ByteArray)[k]'hlt).toNat : Nat) : Int))).extract 1 (ofBytes (List.replicate (lit 64) ((((⟨#[48, 49, 50, 51, 52, 53, 54, 55, 56, 57, 97, 98, 99, 100, 101, 102, 48]⟩ : ByteArray)[k]'hlt).toNat : Nat) : Int))).size) ++ (ofBytes ([(((⟨#[48, 49, 50, 51, 52, 53, 54, 55, 56, 57, 97, 98, 99, 100, 101, 102, 49]⟩ : ByteArray)[k]'hlt).toNat : Nat)])))]) Try.underlying23 sz9 z9 (lbr rfl) (lbr rfl) ⟨rfl, ((hlc rfl).str (id_bd _ _)), trivial⟩ rfl (by simp [width]) (fr_sf kw (in_app As1_12.lt in_nil))) ?_
   refine .appB (ds := List.map D.str (allK k)) (es := [D.str (((ofBytes (List.replicate (lit 64) ((((⟨#[48, 49, 50, 51, 52, 53, 54, 55, 56, 57, 97, 98, 99, 100, 101, 102, 48]⟩ : ByteArray)[k]'hlt).toNat : Nat) : Int))).extract 1 (ofBytes (List.replicate (lit 64) ((((⟨#[48, 49, 50, 51, 52, 53, 54, 55, 56, 57, 97, 98, 99, 100, 101, 102, 48]⟩ : ByteArray)[k]'hlt).toNat : Nat) : Int))).size) ++ (ofBytes ([(((⟨#[48, 49, 50, 51, 52, 53, 54, 55, 56, 57, 97, 98, 99, 100, 101, 102, 49]⟩ : ByteArray)[k]'hlt).toNat : Nat)])))]) (X := SF w (blks hds1_12 ++ [])) Try.underlying23 inf9 (lbr rfl) (hlc rfl) (hlc rfl) (sub_nbF (fun b hb => List.mem_append_left _ hb)) (by rw [List.length_map, allK_len, List.length_singleton, maxLen]; omega) (by rw [List.length_map, allK_len, List.length_singleton]; omega) kw.size ?_
   refine .done ⟨by kernel_rfl, fun a17 g W17 y17 zz17 hk hg hV hR hP => ?_⟩
   obtain ⟨e33, -, -, -, -, -, -, -, -, -, -, -, -⟩ := hV
   replace e1 := (hR 1 rfl).trans e1
   replace e2 := (hR 2 rfl).trans e2
   obtain ⟨v33_17, ev⟩ : ∃ v, sl a17 33 = v := ⟨_, rfl⟩
   rw [ev] at e33
   obtain ⟨hd33_17, A_33_17, hf33_17⟩ := e33
   have e33 := ev; clear ev
   obtain ⟨v33_17a, v33_17n, v33_17c, ev⟩ := arr_sl A_33_17; subst ev
   replace A_33_17 := arrF_new (M' := (blks hd33_17 ++ [])) A_33_17 (rep_app (rep_q fun _ h => h) rep_nil)
   replace A_33_17 : Arr W17 w.heap.size 9 1 (SF w (blks hd33_17 ++ [])) (List.map D.str ((allK k) ++ [((ofBytes (List.replicate (lit 64) ((((⟨#[48, 49, 50, 51, 52, 53, 54, 55, 56, 57, 97, 98, 99, 100, 101, 102, 48]⟩ : ByteArray)[k]'hlt).toNat : Nat) : Int))).extract 1 (ofBytes (List.replicate (lit 64) ((((⟨#[48, 49, 50, 51, 52, 53, 54, 55, 56, 57, 97, 98, 99, 100, 101, 102, 48]⟩ : ByteArray)[k]'hlt).toNat : Nat) : Int))).size) ++ (ofBytes ([(((⟨#[48, 49, 50, 51, 52, 53, 54, 55, 56, 57, 97, 98, 99, 100, 101, 102, 49]⟩ : ByteArray)[k]'hlt).toNat : Nat)]))])) (.slice v33_17a v33_17n v33_17c) hd33_17 := by first | exact A_33_17 | (rw [List.map_append]; exact A_33_17)
   replace kw := keeps_app kw hk As1_12.ge
   clear hR hk hg hP hf33_17 As1_12
   refine tail_assign (v := (.slice v33_17a v33_17n v33_17c)) e33 (by rw [y17]; exact Nat.le_of_ble_eq_true rfl) (fun a18 y18 zz18 e1 hr => ?_)
   replace y18 := y18.trans y17; replace zz18 := zz18.trans zz17
   replace e2 := (hr 2 (by decide)).trans e2
   replace e33 := (hr 33 (by decide)).trans e33
   clear hr
   refine tail_nil (hK16 _ _ ?_)
   refine rg mixed y18 zz18 ?_
   refine .i (sp_move (hbs rfl e2)) ?_
   refine .i (sp_add (hlc rfl) Has.cst (i64_in (by omega))) ?_
   refine .i (sp_assign (hlc rfl)) ?_
   refine .done ⟨by kernel_rfl, fun a19 g W19 y19 zz19 hk hg hV hR hP => ?_⟩
   obtain ⟨e2, -, -, -⟩ := hV
   replace e1 := (hR 1 rfl).trans e1
   replace A_33_17 := A_33_17.ext hk
   replace e2 := e2.q
   replace kw := kw.x hk
   clear hR hk hg hP
   rw [show (allK k) ++ [((ofBytes (List.replicate (lit 64) ((((⟨#[48, 49, 50, 51, 52, 53, 54, 55, 56, 57, 97, 98, 99, 100, 101, 102, 48]⟩ : ByteArray)[k]'hlt).toNat : Nat) : Int))).extract 1 (ofBytes (List.replicate (lit 64) ((((⟨#[48, 49, 50, 51, 52, 53, 54, 55, 56, 57, 97, 98, 99, 100, 101, 102, 48]⟩ : ByteArray)[k]'hlt).toNat : Nat) : Int))).size) ++ (ofBytes ([(((⟨#[48, 49, 50, 51, 52, 53, 54, 55, 56, 57, 97, 98, 99, 100, 101, 102, 49]⟩ : ByteArray)[k]'hlt).toNat : Nat)]))] = allK (k + 1) by exact (allK_step (by rw [idK, dif_pos hlt])).symm] at A_33_17
   exact tail_nil ⟨hlt, (.slice v33_17a v33_17n v33_17c), hd33_17, y19, zz19, kw, e1, (e2.trans (congrArg (Value.int .i64) (by simp))), A_33_17⟩
  ·
   have hge : k = 17 := by have := of_decide_eq_false hc; omega
   rw [show allK k = allK 17 by rw [hge]] at As1_12
   have D_vs1_12 : Rd W15 (SF w []) (strsD (allK 17)) vs1_12 := arrF_rd As1_12 ls_nil nin_nil
   obtain ⟨vs1_12a, vs1_12c, ev, D2⟩ := rdS_out D_vs1_12
   subst ev; replace D_vs1_12 := D2; clear D2
   refine wp_exit (hK8 _ _ ?_)
   refine wp_seq_k fun K20 hK20 => ?_
   refine rg mixed y15 zz15 ?_
   refine .i (sp_move (hbs rfl e1)) ?_
   refine .da (X := SF w []) (e := strsD ((allK 17).take 16)) (sp_sliceDS (h := 16) Try.underlying23 sz9 ((hlc rfl).dat D_vs1_12 sub_all) Has.cst rfl (Nat.le_of_ble_eq_true (by kernel_rfl)) (Nat.le_of_ble_eq_true (by kernel_rfl))) ?_
   refine .da (X := Fr W15) (e := V.d (objV 16 ((allK 17).take 16))) (sp_call2 (φ1 := Is (.int .i64 (16))) (φ2 := IsD (SF w []) (strsD ((allK 17).take 16))) ent17 Has.cst (hlc rfl) (fun g u1 u2 W hk hgk h1 h2 => by have h1 : u1 = _ := h1; subst u1; exact (object_ok (16) ((allK 17).take 16) (Nat.le_of_ble_eq_true (by kernel_rfl)) W _ _ h2).mono (ret_fr hk hgk))) ?_
   refine .op (φ := IsT (IsD (Fr W15) (Au.d (ofAV (objV 16 ((allK 17).take 16))))) (Is (.int .i64 (ofAE (objV 16 ((allK 17).take 16)))))) (st_t (st_d sub_all) (st_is _)) (sp_call1 (φ1 := IsD (Fr W15) (V.d (objV 16 ((allK 17).take 16)))) ent16 (hlc rfl) (fun g u1 W hk hgk h1 => (authOf_ok (objV 16 ((allK 17).take 16)) (Nat.le_of_ble_eq_true (by kernel_rfl)) W _ _ (fun b o h => h.1.2) h1).mono (fun _ _ ⟨v, h1, h2, r1, h3, h4⟩ => ⟨v, h1, h2, r1, _, h3, fresh_d hk hgk h4, rfl⟩))) ?_
   refine .op (φ := IsT (IsD (Fr W15) (Au.d (ofAV (objV 16 ((allK 17).take 16))))) (Is (.int .i64 (ofAE (objV 16 ((allK 17).take 16)))))) (st_t (st_d sub_all) (st_is _)) (sp_move (hlc rfl)) ?_
   refine .da (X := Fr W15) (e := Au.d (ofAV (objV 16 ((allK 17).take 16)))) (sp_ext2 (hlc rfl) rfl) ?_
   refine .i (v := (.int .i64 (ofAE (objV 16 ((allK 17).take 16))))) (sp_ext2' (hlc rfl) rfl) ?_
   refine .alloc z27 ?_
   refine .done ⟨by kernel_rfl, fun a21 g W21 y21 zz21 hk hg hV hR hP => ?_⟩
   obtain ⟨⟨b3_21, e3, hb3, own_b3_21⟩, e40, e39, -, -, -, -, -, -⟩ := hV
   have lo_b3_21 : w.heap.size ≤ b3_21 := Nat.le_trans kw.size (hg.lo _ _ hb3)
   have own_b3_21 : Own W21 b3_21 [(.int .i64 (0)), (.slice none 0 0)] 27 := own_b3_21
   replace e1 := (hR 1 rfl).trans e1
   replace D_vs1_12 := sf_more D_vs1_12 hk [b3_21] (in_cons (hg.lo _ _ hb3) in_nil)
   obtain ⟨v39_21, ev⟩ : ∃ v, sl a21 39 = v := ⟨_, rfl⟩
   rw [ev] at e39
   have D_v39_21 : Rd W21 (SF w [b3_21]) (Au.d (ofAV (objV 16 ((allK 17).take 16)))) v39_21 := fr_end (M := []) e39 kw [b3_21] (in_cons ⟨_, hb3⟩ in_nil) in_nil
   replace e39 := ev; clear ev
   obtain ⟨v39_21_1a, v39_21_1c, ev, D_v39_21_1⟩ := rdAu_out D_v39_21
   subst ev; clear D_v39_21
   replace e40 := e40.q
   replace kw := kw.x hk
   clear hR hk hg hP hb3
   refine tail_store (b := b3_21) (o := 0) (v := (.agg #[(.int .i64 ((ofAV (objV 16 ((allK 17).take 16))).th)), (.slice v39_21_1a (((ofAV (objV 16 ((allK 17).take 16))).ids).length) v39_21_1c)])) e3 e39 sz27 rfl own_b3_21 (lbr rfl) (all_cons rfl (all_cons rfl all_nil)) (fun W22 hs own_b3_21 => ?_)
   have own_b3_21 : Own W22 b3_21 [(.int .i64 ((ofAV (objV 16 ((allK 17).take 16))).th)), (.slice v39_21_1a (((ofAV (objV 16 ((allK 17).take 16))).ids).length) v39_21_1c)] 27 := own_b3_21
   replace D_vs1_12 := sf_store D_vs1_12 hs (by simp)
   replace D_v39_21_1 := sf_store D_v39_21_1 hs (by simp)
   replace kw := keeps_store kw hs lo_b3_21
   clear hs
   refine tail_assign (v := (.int .i64 (ofAE (objV 16 ((allK 17).take 16))))) e40 (by rw [y21]; exact Nat.le_of_ble_eq_true rfl) (fun a23 y23 zz23 e4 hr => ?_)
   replace y23 := y23.trans y21; replace zz23 := zz23.trans zz21
   replace e1 := (hr 1 (by decide)).trans e1
   replace e3 := (hr 3 (by decide)).trans e3
   replace e39 := (hr 39 (by decide)).trans e39
   replace e40 := (hr 40 (by decide)).trans e40
   clear hr
   refine tail_nil (hK20 _ _ ?_)
   refine wp_seq_k fun K24 hK24 => ?_
   refine wp_seq_k fun K25 hK25 => ?_
   refine rg mixed y23 zz23 ?_
   refine .i (sp_move (hbs rfl e4)) ?_
   refine .i (sp_neq (hlc rfl) Has.cst) ?_
   refine .i (sp_move (hlc rfl)) ?_
   refine .e (t := 43) rfl (hlc rfl) (fun hg => fo 1 (hbs rfl e3) Try.underlying27 rfl sz23 rfl) ?_
   refine .e (t := 43) rfl (hlc rfl) (fun hg => lo1 ((hlc rfl).undE hg) own_b3_21 trivial agg23 sz23 rfl) ?_
   refine .e (t := 43) rfl (hlc rfl) (fun hg => sp_lenSs Try.underlying23 (((hlc rfl).undE hg).dat D_v39_21_1 sub_all)) ?_
   refine .e (t := 43) rfl (hlc rfl) (fun hg => sp_neq ((hlc rfl).undE hg) Has.cst) ?_
   refine .i (sp_or (hlc rfl) ((hlc rfl).weak fun hq => hq)) ?_
   refine .i (sp_move (hlc rfl)) ?_
   refine .e (t := 49) (v := (.agg #[(.int .i64 ((ofAV (objV 16 ((allK 17).take 16))).th)), (.slice v39_21_1a (((ofAV (objV 16 ((allK 17).take 16))).ids).length) v39_21_1c)])) rfl (hlc rfl) (fun hg => loA (hbs rfl e3) own_b3_21 trivial agg27 sz27 rfl rfl) ?_
   refine .e (t := 49) (v := (.bool (mayA (ofAV (objV 16 ((allK 17).take 16)))))) rfl (hlc rfl) (fun hg => sp_call1 (φ1 := IsD (SF w [b3_21]) (Au.d ((ofAV (objV 16 ((allK 17).take 16)))))) ent18 (((hlc rfl).undE hg).dat (rdAu_mk D_v39_21_1 : Rd W22 (SF w [b3_21]) (Au.d ((ofAV (objV 16 ((allK 17).take 16))))) _) sub_all) (fun g u1 W hk hgk h1 => mayA_ok ((ofAV (objV 16 ((allK 17).take 16)))) W _ _ h1)) ?_
   refine .e (t := 49) rfl (hlc rfl) (fun hg => sp_not ((hlc rfl).undE hg)) ?_
   refine .i (sp_or (hlc rfl) ((hlc rfl).weak fun hq => hq)) ?_
   refine .i (sp_move (hlc rfl)) ?_
   refine .e (t := 54) rfl (hlc rfl) (fun hg => sp_move (hbs rfl e1)) ?_
   refine .e (t := 54) (v := (.agg #[(.int .i64 (1)), (.slice vs1_12a ((allK 17).length) vs1_12c)])) rfl (hlc rfl) (fun hg => sp_build (vs := [(0, (.int .i64 (1))), (1, (.slice vs1_12a ((allK 17).length) vs1_12c))]) Try.underlying27 z27 (pl27 Try.underlying27) ⟨rfl, Has.cst, rfl, ((hlc rfl).undE hg), trivial⟩ rfl) ?_
   refine .e (t := 54) (v := (.bool (mayA (Au.mk (1) (allK 17))))) rfl (hlc rfl) (fun hg => sp_call1 (φ1 := IsD (SF w [b3_21]) (Au.d (Au.mk (1) (allK 17)))) ent18 (((hlc rfl).undE hg).dat (rdAu_mk D_vs1_12 : Rd W22 (SF w [b3_21]) (Au.d (Au.mk (1) (allK 17))) _) sub_all) (fun g u1 W hk hgk h1 => mayA_ok (Au.mk (1) (allK 17)) W _ _ h1)) ?_
   refine .i (sp_or (hlc rfl) ((hlc rfl).weak fun hq => hq)) ?_
   refine .done ⟨by kernel_rfl, fun a26 g W26 y26 zz26 hk hg hV hR hP => ?_⟩
   obtain ⟨e58, -, -, -, -, -, -, -, -, -, -, -, -, -, -, -, -, -, -⟩ := hV
   replace e1 := (hR 1 rfl).trans e1
   replace D_vs1_12 := D_vs1_12.ext hk
   replace D_v39_21_1 := D_v39_21_1.ext hk
   replace e58 := e58.q
   replace own_b3_21 := own_b3_21.ext hk
   replace kw := kw.x hk
   clear hR hk hg hP
   refine tail_nil (hK25 _ _ ?_)
   refine wp_cond_split e58 (fun hc => ?_) (fun hc => ?_)
   ·
    exfalso
    exact Bool.noConfusion (hc.symm.trans (by kernel_rfl : _ = false))
   ·
    refine wp_skip (hK24 _ _ ?_)
    refine wp_seq_k fun K27 hK27 => ?_
    refine rg mixed y26 zz26 ?_
    refine .i (v := (.string (ofBytes (List.replicate (lit 64) (97 : Int))))) (sp_call1 (φ1 := Is (.int .u8 (97))) ent15 Has.cst (fun g u1 W hk hgk h1 => by have h1 : u1 = _ := h1; subst u1; exact id_ok 97 W)) ?_
    refine .i (sp_assign (hlc rfl)) ?_
    refine .done ⟨by kernel_rfl, fun a28 g W28 y28 zz28 hk hg hV hR hP => ?_⟩
    obtain ⟨e5, -, -⟩ := hV
    replace e1 := (hR 1 rfl).trans e1
    replace D_vs1_12 := D_vs1_12.ext hk
    replace e5 := e5.q
    replace own_b3_21 := own_b3_21.ext hk
    replace kw := kw.x hk
    clear hR hk hg hP
    refine tail_nil (hK27 _ _ ?_)
    refine wp_seq_k fun K29 hK29 => ?_
    refine wp_seq_k fun K30 hK30 => ?_
    refine rg mixed y28 zz28 ?_
    refine .i (sp_move (hbs rfl e1)) ?_
    refine .da (X := Fr W28) (e := V.d (objV 1 (allK 17))) (sp_call2 (φ1 := Is (.int .i64 (1))) (φ2 := IsD (SF w [b3_21]) (strsD (allK 17))) ent17 Has.cst ((hlc rfl).dat D_vs1_12 sub_all) (fun g u1 u2 W hk hgk h1 h2 => by have h1 : u1 = _ := h1; subst u1; exact (object_ok (1) (allK 17) (Nat.le_of_ble_eq_true (by kernel_rfl)) W _ _ h2).mono (ret_fr hk hgk))) ?_
    refine .da (X := Fr W28) (e := Ro.d (Ro.mk (objV 1 (allK 17)) (5))) (sp_buildD (zd := [V.d V.zero, D.int .i64 0]) (es := [(0, V.d (objV 1 (allK 17))), (1, D.int .i64 (5))]) Try.underlying36 z36 (pl36 Try.underlying36) ⟨rfl, (hlc rfl), ⟨rfl, Has.cst.int, trivial⟩⟩ zRo (by first | rfl | simp [plOf, width, width_V, hssD]) (by simp [fits, width, strsD, valsD, hssD, width_V]) rfl) ?_
    refine .da (X := Fr W28) (e := V.d (objV 0 ([]))) (sp_call2 (φ1 := Is (.int .i64 (0))) (φ2 := IsD (SF w [b3_21]) (strsD ([]))) ent17 Has.cst (Has.cst.dat (rd_nil _ : Rd W28 (SF w [b3_21]) (strsD ([])) _) sub_all) (fun g u1 u2 W hk hgk h1 h2 => by have h1 : u1 = _ := h1; subst u1; exact (object_ok (0) ([]) (Nat.le_of_ble_eq_true (by kernel_rfl)) W _ _ h2).mono (ret_fr hk hgk))) ?_
    refine .da (X := Fr W28) (e := Ro.d (Ro.mk (objV 0 ([])) (4))) (sp_buildD (zd := [V.d V.zero, D.int .i64 0]) (es := [(0, V.d (objV 0 ([]))), (1, D.int .i64 (4))]) Try.underlying36 z36 (pl36 Try.underlying36) ⟨rfl, (hlc rfl), ⟨rfl, Has.cst.int, trivial⟩⟩ zRo (by first | rfl | simp [plOf, width, width_V, hssD]) (by simp [fits, width, strsD, valsD, hssD, width_V]) rfl) ?_
    refine .i (sp_move (hbs rfl e5)) ?_
    refine .da (X := SF w [b3_21]) (e := strsD ([ofBytes (List.replicate (lit 64) (97 : Int))])) (sp_bsl (ds := [D.str (ofBytes (List.replicate (lit 64) (97 : Int)))]) Try.underlying23 sz9 z9 (lbr rfl) (lbr rfl) ⟨rfl, ((hlc rfl).str (idb _)), trivial⟩ rfl (by simp [width]) (fr_sf kw (in_cons own_b3_21.lt in_nil))) ?_
    refine .da (X := Fr W28) (e := V.d (objV 2 ([ofBytes (List.replicate (lit 64) (97 : Int))]))) (sp_call2 (φ1 := Is (.int .i64 (2))) (φ2 := IsD (SF w [b3_21]) (strsD ([ofBytes (List.replicate (lit 64) (97 : Int))]))) ent17 Has.cst (hlc rfl) (fun g u1 u2 W hk hgk h1 h2 => by have h1 : u1 = _ := h1; subst u1; exact (object_ok (2) ([ofBytes (List.replicate (lit 64) (97 : Int))]) (Nat.le_of_ble_eq_true (by kernel_rfl)) W _ _ h2).mono (ret_fr hk hgk))) ?_
    refine .da (X := Fr W28) (e := Ro.d (Ro.mk (objV 2 ([ofBytes (List.replicate (lit 64) (97 : Int))])) (1))) (sp_buildD (zd := [V.d V.zero, D.int .i64 0]) (es := [(0, V.d (objV 2 ([ofBytes (List.replicate (lit 64) (97 : Int))]))), (1, D.int .i64 (1))]) Try.underlying36 z36 (pl36 Try.underlying36) ⟨rfl, (hlc rfl), ⟨rfl, Has.cst.int, trivial⟩⟩ zRo (by first | rfl | simp [plOf, width, width_V, hssD]) (by simp [fits, width, strsD, valsD, hssD, width_V]) rfl) ?_
    refine .i (sp_move (hbs rfl e5)) ?_
    refine .da (X := SF w [b3_21]) (e := strsD ([ofBytes (List.replicate (lit 64) (97 : Int))])) (sp_bsl (ds := [D.str (ofBytes (List.replicate (lit 64) (97 : Int)))]) Try.underlying23 sz9 z9 (lbr rfl) (lbr rfl) ⟨rfl, ((hlc rfl).str (idb _)), trivial⟩ rfl (by simp [width]) (fr_sf kw (in_cons own_b3_21.lt in_nil))) ?_
    refine .da (X := Fr W28) (e := V.d (objV 0 ([ofBytes (List.replicate (lit 64) (97 : Int))]))) (sp_call2 (φ1 := Is (.int .i64 (0))) (φ2 := IsD (SF w [b3_21]) (strsD ([ofBytes (List.replicate (lit 64) (97 : Int))]))) ent17 Has.cst (hlc rfl) (fun g u1 u2 W hk hgk h1 h2 => by have h1 : u1 = _ := h1; subst u1; exact (object_ok (0) ([ofBytes (List.replicate (lit 64) (97 : Int))]) (Nat.le_of_ble_eq_true (by kernel_rfl)) W _ _ h2).mono (ret_fr hk hgk))) ?_
    refine .da (X := Fr W28) (e := Ro.d (Ro.mk (objV 0 ([ofBytes (List.replicate (lit 64) (97 : Int))])) (1))) (sp_buildD (zd := [V.d V.zero, D.int .i64 0]) (es := [(0, V.d (objV 0 ([ofBytes (List.replicate (lit 64) (97 : Int))]))), (1, D.int .i64 (1))]) Try.underlying36 z36 (pl36 Try.underlying36) ⟨rfl, (hlc rfl), ⟨rfl, Has.cst.int, trivial⟩⟩ zRo (by first | rfl | simp [plOf, width, width_V, hssD]) (by simp [fits, width, strsD, valsD, hssD, width_V]) rfl) ?_
    refine .i (sp_move (hbs rfl e5)) ?_
    refine .i (sp_move (hbs rfl e5)) ?_
    refine .da (X := SF w [b3_21]) (e := strsD ([ofBytes (List.replicate (lit 64) (97 : Int)), ofBytes (List.replicate (lit 64) (97 : Int))])) (sp_bsl (ds := [D.str (ofBytes (List.replicate (lit 64) (97 : Int))), D.str (ofBytes (List.replicate (lit 64) (97 : Int)))]) Try.underlying23 sz9 z9 (lbr rfl) (lbr rfl) ⟨rfl, ((hlc rfl).str (idb _)), ⟨rfl, ((hlc rfl).str (idb _)), trivial⟩⟩ rfl (by simp [width]) (fr_sf kw (in_cons own_b3_21.lt in_nil))) ?_
    refine .da (X := Fr W28) (e := V.d (objV 9 ([ofBytes (List.replicate (lit 64) (97 : Int)), ofBytes (List.replicate (lit 64) (97 : Int))]))) (sp_call2 (φ1 := Is (.int .i64 (9))) (φ2 := IsD (SF w [b3_21]) (strsD ([ofBytes (List.replicate (lit 64) (97 : Int)), ofBytes (List.replicate (lit 64) (97 : Int))]))) ent17 Has.cst (hlc rfl) (fun g u1 u2 W hk hgk h1 h2 => by have h1 : u1 = _ := h1; subst u1; exact (object_ok (9) ([ofBytes (List.replicate (lit 64) (97 : Int)), ofBytes (List.replicate (lit 64) (97 : Int))]) (Nat.le_of_ble_eq_true (by kernel_rfl)) W _ _ h2).mono (ret_fr hk hgk))) ?_
    refine .da (X := Fr W28) (e := Ro.d (Ro.mk (objV 9 ([ofBytes (List.replicate (lit 64) (97 : Int)), ofBytes (List.replicate (lit 64) (97 : Int))])) (7))) (sp_buildD (zd := [V.d V.zero, D.int .i64 0]) (es := [(0, V.d (objV 9 ([ofBytes (List.replicate (lit 64) (97 : Int)), ofBytes (List.replicate (lit 64) (97 : Int))]))), (1, D.int .i64 (7))]) Try.underlying36 z36 (pl36 Try.underlying36) ⟨rfl, (hlc rfl), ⟨rfl, Has.cst.int, trivial⟩⟩ zRo (by first | rfl | simp [plOf, width, width_V, hssD]) (by simp [fits, width, strsD, valsD, hssD, width_V]) rfl) ?_
    refine .i (sp_move (hbs rfl e5)) ?_
    refine .i (sp_move (hbs rfl e5)) ?_
    refine .da (X := SF w [b3_21]) (e := strsD ([⟨#[120]⟩, ofBytes (List.replicate (lit 64) (97 : Int)), ofBytes (List.replicate (lit 64) (97 : Int))])) (sp_bsl (ds := [D.str (⟨#[120]⟩), D.str (ofBytes (List.replicate (lit 64) (97 : Int))), D.str (ofBytes (List.replicate (lit 64) (97 : Int)))]) Try.underlying23 sz9 z9 (lbr rfl) (lbr rfl) ⟨rfl, (Has.cst.str (lbr rfl)), ⟨rfl, ((hlc rfl).str (idb _)), ⟨rfl, ((hlc rfl).str (idb _)), trivial⟩⟩⟩ rfl (by simp [width]) (fr_sf kw (in_cons own_b3_21.lt in_nil))) ?_
    refine .da (X := Fr W28) (e := V.d (objV 9 ([⟨#[120]⟩, ofBytes (List.replicate (lit 64) (97 : Int)), ofBytes (List.replicate (lit 64) (97 : Int))]))) (sp_call2 (φ1 := Is (.int .i64 (9))) (φ2 := IsD (SF w [b3_21]) (strsD ([⟨#[120]⟩, ofBytes (List.replicate (lit 64) (97 : Int)), ofBytes (List.replicate (lit 64) (97 : Int))]))) ent17 Has.cst (hlc rfl) (fun g u1 u2 W hk hgk h1 h2 => by have h1 : u1 = _ := h1; subst u1; exact (object_ok (9) ([⟨#[120]⟩, ofBytes (List.replicate (lit 64) (97 : Int)), ofBytes (List.replicate (lit 64) (97 : Int))]) (Nat.le_of_ble_eq_true (by kernel_rfl)) W _ _ h2).mono (ret_fr hk hgk))) ?_
    refine .da (X := Fr W28) (e := Ro.d (Ro.mk (objV 9 ([⟨#[120]⟩, ofBytes (List.replicate (lit 64) (97 : Int)), ofBytes (List.replicate (lit 64) (97 : Int))])) (3))) (sp_buildD (zd := [V.d V.zero, D.int .i64 0]) (es := [(0, V.d (objV 9 ([⟨#[120]⟩, ofBytes (List.replicate (lit 64) (97 : Int)), ofBytes (List.replicate (lit 64) (97 : Int))]))), (1, D.int .i64 (3))]) Try.underlying36 z36 (pl36 Try.underlying36) ⟨rfl, (hlc rfl), ⟨rfl, Has.cst.int, trivial⟩⟩ zRo (by first | rfl | simp [plOf, width, width_V, hssD]) (by simp [fits, width, strsD, valsD, hssD, width_V]) rfl) ?_
    refine .i (sp_move (hbs rfl e5)) ?_
    refine .i (sp_move (hbs rfl e5)) ?_
    refine .da (X := SF w [b3_21]) (e := strsD ([ofBytes (List.replicate (lit 64) (97 : Int)), ofBytes (List.replicate (lit 64) (97 : Int)), ⟨#[120]⟩])) (sp_bsl (ds := [D.str (ofBytes (List.replicate (lit 64) (97 : Int))), D.str (ofBytes (List.replicate (lit 64) (97 : Int))), D.str (⟨#[120]⟩)]) Try.underlying23 sz9 z9 (lbr rfl) (lbr rfl) ⟨rfl, ((hlc rfl).str (idb _)), ⟨rfl, ((hlc rfl).str (idb _)), ⟨rfl, (Has.cst.str (lbr rfl)), trivial⟩⟩⟩ rfl (by simp [width]) (fr_sf kw (in_cons own_b3_21.lt in_nil))) ?_
    refine .da (X := Fr W28) (e := V.d (objV 9 ([ofBytes (List.replicate (lit 64) (97 : Int)), ofBytes (List.replicate (lit 64) (97 : Int)), ⟨#[120]⟩]))) (sp_call2 (φ1 := Is (.int .i64 (9))) (φ2 := IsD (SF w [b3_21]) (strsD ([ofBytes (List.replicate (lit 64) (97 : Int)), ofBytes (List.replicate (lit 64) (97 : Int)), ⟨#[120]⟩]))) ent17 Has.cst (hlc rfl) (fun g u1 u2 W hk hgk h1 h2 => by have h1 : u1 = _ := h1; subst u1; exact (object_ok (9) ([ofBytes (List.replicate (lit 64) (97 : Int)), ofBytes (List.replicate (lit 64) (97 : Int)), ⟨#[120]⟩]) (Nat.le_of_ble_eq_true (by kernel_rfl)) W _ _ h2).mono (ret_fr hk hgk))) ?_
    refine .da (X := Fr W28) (e := Ro.d (Ro.mk (objV 9 ([ofBytes (List.replicate (lit 64) (97 : Int)), ofBytes (List.replicate (lit 64) (97 : Int)), ⟨#[120]⟩])) (7))) (sp_buildD (zd := [V.d V.zero, D.int .i64 0]) (es := [(0, V.d (objV 9 ([ofBytes (List.replicate (lit 64) (97 : Int)), ofBytes (List.replicate (lit 64) (97 : Int)), ⟨#[120]⟩]))), (1, D.int .i64 (7))]) Try.underlying36 z36 (pl36 Try.underlying36) ⟨rfl, (hlc rfl), ⟨rfl, Has.cst.int, trivial⟩⟩ zRo (by first | rfl | simp [plOf, width, width_V, hssD]) (by simp [fits, width, strsD, valsD, hssD, width_V]) rfl) ?_
    refine .i (sp_move (hbs rfl e5)) ?_
    refine .i (v := (.string ((ofBytes (List.replicate (lit 64) (97 : Int))).extract 1 (ofBytes (List.replicate (lit 64) (97 : Int))).size))) (sp_sliceLo (i := 1) Try.underlying9 (hlc rfl) Has.cst rfl (id_lo _)) ?_
    refine .da (X := SF w [b3_21]) (e := strsD ([(ofBytes (List.replicate (lit 64) (97 : Int))).extract 1 (ofBytes (List.replicate (lit 64) (97 : Int))).size])) (sp_bsl (ds := [D.str ((ofBytes (List.replicate (lit 64) (97 : Int))).extract 1 (ofBytes (List.replicate (lit 64) (97 : Int))).size)]) Try.underlying23 sz9 z9 (lbr rfl) (lbr rfl) ⟨rfl, ((hlc rfl).str (Nat.le_of_ble_eq_true (by kernel_rfl))), trivial⟩ rfl (by simp [width]) (fr_sf kw (in_cons own_b3_21.lt in_nil))) ?_
    refine .da (X := Fr W28) (e := V.d (objV 1 ([(ofBytes (List.replicate (lit 64) (97 : Int))).extract 1 (ofBytes (List.replicate (lit 64) (97 : Int))).size]))) (sp_call2 (φ1 := Is (.int .i64 (1))) (φ2 := IsD (SF w [b3_21]) (strsD ([(ofBytes (List.replicate (lit 64) (97 : Int))).extract 1 (ofBytes (List.replicate (lit 64) (97 : Int))).size]))) ent17 Has.cst (hlc rfl) (fun g u1 u2 W hk hgk h1 h2 => by have h1 : u1 = _ := h1; subst u1; exact (object_ok (1) ([(ofBytes (List.replicate (lit 64) (97 : Int))).extract 1 (ofBytes (List.replicate (lit 64) (97 : Int))).size]) (Nat.le_of_ble_eq_true (by kernel_rfl)) W _ _ h2).mono (ret_fr hk hgk))) ?_
    refine .da (X := Fr W28) (e := Ro.d (Ro.mk (objV 1 ([(ofBytes (List.replicate (lit 64) (97 : Int))).extract 1 (ofBytes (List.replicate (lit 64) (97 : Int))).size])) (3))) (sp_buildD (zd := [V.d V.zero, D.int .i64 0]) (es := [(0, V.d (objV 1 ([(ofBytes (List.replicate (lit 64) (97 : Int))).extract 1 (ofBytes (List.replicate (lit 64) (97 : Int))).size]))), (1, D.int .i64 (3))]) Try.underlying36 z36 (pl36 Try.underlying36) ⟨rfl, (hlc rfl), ⟨rfl, Has.cst.int, trivial⟩⟩ zRo (by first | rfl | simp [plOf, width, width_V, hssD]) (by simp [fits, width, strsD, valsD, hssD, width_V]) rfl) ?_
    refine .i (sp_move (hbs rfl e5)) ?_
    refine .i (v := (.string ((ofBytes (List.replicate (lit 64) (97 : Int))) ++ (⟨#[97]⟩ : ByteArray)))) (sp_sAdd (hlc rfl) Has.cst (by first | exact Nat.le_of_ble_eq_true (by kernel_rfl) | exact id_add _ _)) ?_
    refine .da (X := SF w [b3_21]) (e := strsD ([(ofBytes (List.replicate (lit 64) (97 : Int))) ++ (⟨#[97]⟩ : ByteArray)])) (sp_bsl (ds := [D.str ((ofBytes (List.replicate (lit 64) (97 : Int))) ++ (⟨#[97]⟩ : ByteArray))]) Try.underlying23 sz9 z9 (lbr rfl) (lbr rfl) ⟨rfl, ((hlc rfl).str (Nat.le_of_ble_eq_true (by kernel_rfl))), trivial⟩ rfl (by simp [width]) (fr_sf kw (in_cons own_b3_21.lt in_nil))) ?_
    refine .da (X := Fr W28) (e := V.d (objV 1 ([(ofBytes (List.replicate (lit 64) (97 : Int))) ++ (⟨#[97]⟩ : ByteArray)]))) (sp_call2 (φ1 := Is (.int .i64 (1))) (φ2 := IsD (SF w [b3_21]) (strsD ([(ofBytes (List.replicate (lit 64) (97 : Int))) ++ (⟨#[97]⟩ : ByteArray)]))) ent17 Has.cst (hlc rfl) (fun g u1 u2 W hk hgk h1 h2 => by have h1 : u1 = _ := h1; subst u1; exact (object_ok (1) ([(ofBytes (List.replicate (lit 64) (97 : Int))) ++ (⟨#[97]⟩ : ByteArray)]) (Nat.le_of_ble_eq_true (by kernel_rfl)) W _ _ h2).mono (ret_fr hk hgk))) ?_
    refine .da (X := Fr W28) (e := Ro.d (Ro.mk (objV 1 ([(ofBytes (List.replicate (lit 64) (97 : Int))) ++ (⟨#[97]⟩ : ByteArray)])) (3))) (sp_buildD (zd := [V.d V.zero, D.int .i64 0]) (es := [(0, V.d (objV 1 ([(ofBytes (List.replicate (lit 64) (97 : Int))) ++ (⟨#[97]⟩ : ByteArray)]))), (1, D.int .i64 (3))]) Try.underlying36 z36 (pl36 Try.underlying36) ⟨rfl, (hlc rfl), ⟨rfl, Has.cst.int, trivial⟩⟩ zRo (by first | rfl | simp [plOf, width, width_V, hssD]) (by simp [fits, width, strsD, valsD, hssD, width_V]) rfl) ?_
    refine .i (sp_move (hbs rfl e5)) ?_
    refine .i (v := (.string ((ofBytes (List.replicate (lit 64) (97 : Int))).extract 0 63))) (sp_sliceHi (i := 63) Try.underlying9 (hlc rfl) Has.cst rfl (id_hi _)) ?_
    refine .i (v := (.string (((ofBytes (List.replicate (lit 64) (97 : Int))).extract 0 63) ++ (⟨#[65]⟩ : ByteArray)))) (sp_sAdd (hlc rfl) Has.cst (by first | exact Nat.le_of_ble_eq_true (by kernel_rfl) | exact id_add _ _)) ?_
    refine .da (X := SF w [b3_21]) (e := strsD ([((ofBytes (List.replicate (lit 64) (97 : Int))).extract 0 63) ++ (⟨#[65]⟩ : ByteArray)])) (sp_bsl (ds := [D.str (((ofBytes (List.replicate (lit 64) (97 : Int))).extract 0 63) ++ (⟨#[65]⟩ : ByteArray))]) Try.underlying23 sz9 z9 (lbr rfl) (lbr rfl) ⟨rfl, ((hlc rfl).str (Nat.le_of_ble_eq_true (by kernel_rfl))), trivial⟩ rfl (by simp [width]) (fr_sf kw (in_cons own_b3_21.lt in_nil))) ?_
    refine .da (X := Fr W28) (e := V.d (objV 1 ([((ofBytes (List.replicate (lit 64) (97 : Int))).extract 0 63) ++ (⟨#[65]⟩ : ByteArray)]))) (sp_call2 (φ1 := Is (.int .i64 (1))) (φ2 := IsD (SF w [b3_21]) (strsD ([((ofBytes (List.replicate (lit 64) (97 : Int))).extract 0 63) ++ (⟨#[65]⟩ : ByteArray)]))) ent17 Has.cst (hlc rfl) (fun g u1 u2 W hk hgk h1 h2 => by have h1 : u1 = _ := h1; subst u1; exact (object_ok (1) ([((ofBytes (List.replicate (lit 64) (97 : Int))).extract 0 63) ++ (⟨#[65]⟩ : ByteArray)]) (Nat.le_of_ble_eq_true (by kernel_rfl)) W _ _ h2).mono (ret_fr hk hgk))) ?_
    refine .da (X := Fr W28) (e := Ro.d (Ro.mk (objV 1 ([((ofBytes (List.replicate (lit 64) (97 : Int))).extract 0 63) ++ (⟨#[65]⟩ : ByteArray)])) (3))) (sp_buildD (zd := [V.d V.zero, D.int .i64 0]) (es := [(0, V.d (objV 1 ([((ofBytes (List.replicate (lit 64) (97 : Int))).extract 0 63) ++ (⟨#[65]⟩ : ByteArray)]))), (1, D.int .i64 (3))]) Try.underlying36 z36 (pl36 Try.underlying36) ⟨rfl, (hlc rfl), ⟨rfl, Has.cst.int, trivial⟩⟩ zRo (by first | rfl | simp [plOf, width, width_V, hssD]) (by simp [fits, width, strsD, valsD, hssD, width_V]) rfl) ?_
    refine .i (v := (.agg #[(.int .u8 (4)), (.int .i64 (0)), (.string (⟨#[]⟩)), (.slice none 0 0), (.slice none 0 0)])) (sp_build (vs := [(0, (.int .u8 (4)))]) Try.underlying33 z33 (pl33 Try.underlying33) ⟨rfl, Has.cst, trivial⟩ rfl) ?_
    refine .i (v := (.agg #[(.int .u8 (4)), (.int .i64 (0)), (.string (⟨#[]⟩)), (.slice none 0 0), (.slice none 0 0), (.int .i64 (10))])) (sp_build (vs := [(0, (.agg #[(.int .u8 (4)), (.int .i64 (0)), (.string (⟨#[]⟩)), (.slice none 0 0), (.slice none 0 0)])), (1, (.int .i64 (10)))]) Try.underlying36 z36 (pl36 Try.underlying36) ⟨rfl, (hlc rfl), rfl, Has.cst, trivial⟩ (by kernel_rfl)) ?_
    refine .i (v := (.agg #[(.int .u8 (0)), (.int .i64 (0)), (.string (⟨#[]⟩)), (.slice none 0 0), (.slice none 0 0)])) (sp_build (vs := []) Try.underlying33 z33 (pl33 Try.underlying33) trivial rfl) ?_
    refine .i (v := (.agg #[(.int .u8 (0)), (.int .i64 (0)), (.string (⟨#[]⟩)), (.slice none 0 0), (.slice none 0 0), (.int .i64 (3))])) (sp_build (vs := [(0, (.agg #[(.int .u8 (0)), (.int .i64 (0)), (.string (⟨#[]⟩)), (.slice none 0 0), (.slice none 0 0)])), (1, (.int .i64 (3)))]) Try.underlying36 z36 (pl36 Try.underlying36) ⟨rfl, (hlc rfl), rfl, Has.cst, trivial⟩ (by kernel_rfl)) ?_
    refine .i (v := (.agg #[(.int .u8 (5)), (.int .i64 (0)), (.string (⟨#[]⟩)), (.slice none 0 0), (.slice none 0 0)])) (sp_build (vs := [(0, (.int .u8 (5)))]) Try.underlying33 z33 (pl33 Try.underlying33) ⟨rfl, Has.cst, trivial⟩ rfl) ?_
    refine .i (v := (.agg #[(.int .u8 (5)), (.int .i64 (0)), (.string (⟨#[]⟩)), (.slice none 0 0), (.slice none 0 0), (.int .i64 (6))])) (sp_build (vs := [(0, (.agg #[(.int .u8 (5)), (.int .i64 (0)), (.string (⟨#[]⟩)), (.slice none 0 0), (.slice none 0 0)])), (1, (.int .i64 (6)))]) Try.underlying36 z36 (pl36 Try.underlying36) ⟨rfl, (hlc rfl), rfl, Has.cst, trivial⟩ (by kernel_rfl)) ?_
    refine .da (X := SF w [b3_21]) (e := strsD ([⟨#[107, 101, 121, 105, 100, 115]⟩])) (sp_bsl (ds := [D.str (⟨#[107, 101, 121, 105, 100, 115]⟩)]) Try.underlying23 sz9 z9 (lbr rfl) (lbr rfl) ⟨rfl, (Has.cst.str (lbr rfl)), trivial⟩ rfl (by simp [width]) (fr_sf kw (in_cons own_b3_21.lt in_nil))) ?_
    refine .i (sp_move (hbs rfl e5)) ?_
    refine .da (X := SF w [b3_21]) (e := strsD ([ofBytes (List.replicate (lit 64) (97 : Int))])) (sp_bsl (ds := [D.str (ofBytes (List.replicate (lit 64) (97 : Int)))]) Try.underlying23 sz9 z9 (lbr rfl) (lbr rfl) ⟨rfl, ((hlc rfl).str (idb _)), trivial⟩ rfl (by simp [width]) (fr_sf kw (in_cons own_b3_21.lt in_nil))) ?_
    refine .da (X := Fr W28) (e := V.d (txtsV ([ofBytes (List.replicate (lit 64) (97 : Int))]))) (sp_call1 (φ1 := IsD (SF w [b3_21]) (strsD ([ofBytes (List.replicate (lit 64) (97 : Int))]))) ent19 (hlc rfl) (fun g u1 W hk hgk h1 => (refTexts_ok ([ofBytes (List.replicate (lit 64) (97 : Int))]) (Nat.le_of_ble_eq_true (by kernel_rfl)) W _ _ h1).mono (ret_fr hk hgk))) ?_
    refine .da (X := SF w [b3_21]) (e := valsD ([txtsV ([ofBytes (List.replicate (lit 64) (97 : Int))])])) (sp_bsl (ds := [V.d (txtsV ([ofBytes (List.replicate (lit 64) (97 : Int))]))]) Try.underlying31 sz33 z33 (lbr rfl) (lbr rfl) ⟨rfl, ((hlc rfl).sup (fr_sf kw (in_cons own_b3_21.lt in_nil))), trivial⟩ rfl (by intro e he; simp at he; rcases he with rfl <;> exact width_V _) (fr_sf kw (in_cons own_b3_21.lt in_nil))) ?_
    refine .da (X := SF w [b3_21]) (e := V.d (V.mk (5) (0) (⟨#[]⟩) ([⟨#[107, 101, 121, 105, 100, 115]⟩]) ([txtsV ([ofBytes (List.replicate (lit 64) (97 : Int))])]))) (sp_buildD (zd := [.int .u8 0, .int .i64 0, .str ⟨#[]⟩, strsD [], valsD []]) (es := [(0, D.int .u8 (5)), (3, strsD ([⟨#[107, 101, 121, 105, 100, 115]⟩])), (4, valsD ([txtsV ([ofBytes (List.replicate (lit 64) (97 : Int))])]))]) Try.underlying33 z33 (pl33 Try.underlying33) ⟨rfl, Has.cst.int, ⟨rfl, (hlc rfl), ⟨rfl, (hlc rfl), trivial⟩⟩⟩ zV rfl (by simp [fits, width, strsD, valsD]) (by rw [V.d_eq]; rfl)) ?_
    refine .da (X := SF w [b3_21]) (e := Ro.d (Ro.mk (V.mk (5) (0) (⟨#[]⟩) ([⟨#[107, 101, 121, 105, 100, 115]⟩]) ([txtsV ([ofBytes (List.replicate (lit 64) (97 : Int))])])) (6))) (sp_buildD (zd := [V.d V.zero, D.int .i64 0]) (es := [(0, V.d (V.mk (5) (0) (⟨#[]⟩) ([⟨#[107, 101, 121, 105, 100, 115]⟩]) ([txtsV ([ofBytes (List.replicate (lit 64) (97 : Int))])]))), (1, D.int .i64 (6))]) Try.underlying36 z36 (pl36 Try.underlying36) ⟨rfl, (hlc rfl), ⟨rfl, Has.cst.int, trivial⟩⟩ zRo (by first | rfl | simp [plOf, width, width_V, hssD]) (by simp [fits, width, strsD, valsD, hssD, width_V]) rfl) ?_
    refine .da (X := SF w [b3_21]) (e := strsD ([⟨#[107, 101, 121, 105, 100, 115]⟩, ⟨#[109, 111, 114, 101]⟩, ⟨#[116, 104, 114, 101, 115, 104, 111, 108, 100]⟩])) (sp_bsl (ds := [D.str (⟨#[107, 101, 121, 105, 100, 115]⟩), D.str (⟨#[109, 111, 114, 101]⟩), D.str (⟨#[116, 104, 114, 101, 115, 104, 111, 108, 100]⟩)]) Try.underlying23 sz9 z9 (lbr rfl) (lbr rfl) ⟨rfl, (Has.cst.str (lbr rfl)), ⟨rfl, (Has.cst.str (lbr rfl)), ⟨rfl, (Has.cst.str (lbr rfl)), trivial⟩⟩⟩ rfl (by simp [width]) (fr_sf kw (in_cons own_b3_21.lt in_nil))) ?_
    refine .i (sp_move (hbs rfl e5)) ?_
    refine .da (X := SF w [b3_21]) (e := strsD ([ofBytes (List.replicate (lit 64) (97 : Int))])) (sp_bsl (ds := [D.str (ofBytes (List.replicate (lit 64) (97 : Int)))]) Try.underlying23 sz9 z9 (lbr rfl) (lbr rfl) ⟨rfl, ((hlc rfl).str (idb _)), trivial⟩ rfl (by simp [width]) (fr_sf kw (in_cons own_b3_21.lt in_nil))) ?_
    refine .da (X := Fr W28) (e := V.d (txtsV ([ofBytes (List.replicate (lit 64) (97 : Int))]))) (sp_call1 (φ1 := IsD (SF w [b3_21]) (strsD ([ofBytes (List.replicate (lit 64) (97 : Int))]))) ent19 (hlc rfl) (fun g u1 W hk hgk h1 => (refTexts_ok ([ofBytes (List.replicate (lit 64) (97 : Int))]) (Nat.le_of_ble_eq_true (by kernel_rfl)) W _ _ h1).mono (ret_fr hk hgk))) ?_
    refine .i (v := (.agg #[(.int .u8 (4)), (.int .i64 (0)), (.string (⟨#[]⟩)), (.slice none 0 0), (.slice none 0 0)])) (sp_build (vs := [(0, (.int .u8 (4)))]) Try.underlying33 z33 (pl33 Try.underlying33) ⟨rfl, Has.cst, trivial⟩ rfl) ?_
    refine .i (v := (.agg #[(.int .u8 (2)), (.int .i64 (1)), (.string (⟨#[]⟩)), (.slice none 0 0), (.slice none 0 0)])) (sp_build (vs := [(0, (.int .u8 (2))), (1, (.int .i64 (1)))]) Try.underlying33 z33 (pl33 Try.underlying33) ⟨rfl, Has.cst, rfl, Has.cst, trivial⟩ rfl) ?_
    refine .da (X := SF w [b3_21]) (e := valsD ([txtsV ([ofBytes (List.replicate (lit 64) (97 : Int))]), V.mk (4) (0) (⟨#[]⟩) ([]) ([]), V.mk (2) (1) (⟨#[]⟩) ([]) ([])])) (sp_bsl (ds := [V.d (txtsV ([ofBytes (List.replicate (lit 64) (97 : Int))])), V.d (V.mk (4) (0) (⟨#[]⟩) ([]) ([])), V.d (V.mk (2) (1) (⟨#[]⟩) ([]) ([]))]) Try.underlying31 sz33 z33 (lbr rfl) (lbr rfl) ⟨rfl, ((hlc rfl).sup (fr_sf kw (in_cons own_b3_21.lt in_nil))), ⟨rfl, ((hlc rfl).dat (rdV_mk (lbr rfl) (rd_nil _) (rd_nil _) : Rd W28 (SF w [b3_21]) (V.d (V.mk (4) (0) (⟨#[]⟩) ([]) ([]))) _) sub_all), ⟨rfl, ((hlc rfl).dat (rdV_mk (lbr rfl) (rd_nil _) (rd_nil _) : Rd W28 (SF w [b3_21]) (V.d (V.mk (2) (1) (⟨#[]⟩) ([]) ([]))) _) sub_all), trivial⟩⟩⟩ rfl (by intro e he; simp at he; rcases he with rfl | rfl | rfl <;> exact width_V _) (fr_sf kw (in_cons own_b3_21.lt in_nil))) ?_
    refine .da (X := SF w [b3_21]) (e := V.d (V.mk (5) (0) (⟨#[]⟩) ([⟨#[107, 101, 121, 105, 100, 115]⟩, ⟨#[109, 111, 114, 101]⟩, ⟨#[116, 104, 114, 101, 115, 104, 111, 108, 100]⟩]) ([txtsV ([ofBytes (List.replicate (lit 64) (97 : Int))]), V.mk (4) (0) (⟨#[]⟩) ([]) ([]), V.mk (2) (1) (⟨#[]⟩) ([]) ([])]))) (sp_buildD (zd := [.int .u8 0, .int .i64 0, .str ⟨#[]⟩, strsD [], valsD []]) (es := [(0, D.int .u8 (5)), (3, strsD ([⟨#[107, 101, 121, 105, 100, 115]⟩, ⟨#[109, 111, 114, 101]⟩, ⟨#[116, 104, 114, 101, 115, 104, 111, 108, 100]⟩])), (4, valsD ([txtsV ([ofBytes (List.replicate (lit 64) (97 : Int))]), V.mk (4) (0) (⟨#[]⟩) ([]) ([]), V.mk (2) (1) (⟨#[]⟩) ([]) ([])]))]) Try.underlying33 z33 (pl33 Try.underlying33) ⟨rfl, Has.cst.int, ⟨rfl, (hlc rfl), ⟨rfl, (hlc rfl), trivial⟩⟩⟩ zV rfl (by simp [fits, width, strsD, valsD]) (by rw [V.d_eq]; rfl)) ?_
    refine .da (X := SF w [b3_21]) (e := Ro.d (Ro.mk (V.mk (5) (0) (⟨#[]⟩) ([⟨#[107, 101, 121, 105, 100, 115]⟩, ⟨#[109, 111, 114, 101]⟩, ⟨#[116, 104, 114, 101, 115, 104, 111, 108, 100]⟩]) ([txtsV ([ofBytes (List.replicate (lit 64) (97 : Int))]), V.mk (4) (0) (⟨#[]⟩) ([]) ([]), V.mk (2) (1) (⟨#[]⟩) ([]) ([])])) (11))) (sp_buildD (zd := [V.d V.zero, D.int .i64 0]) (es := [(0, V.d (V.mk (5) (0) (⟨#[]⟩) ([⟨#[107, 101, 121, 105, 100, 115]⟩, ⟨#[109, 111, 114, 101]⟩, ⟨#[116, 104, 114, 101, 115, 104, 111, 108, 100]⟩]) ([txtsV ([ofBytes (List.replicate (lit 64) (97 : Int))]), V.mk (4) (0) (⟨#[]⟩) ([]) ([]), V.mk (2) (1) (⟨#[]⟩) ([]) ([])]))), (1, D.int .i64 (11))]) Try.underlying36 z36 (pl36 Try.underlying36) ⟨rfl, (hlc rfl), ⟨rfl, Has.cst.int, trivial⟩⟩ zRo (by first | rfl | simp [plOf, width, width_V, hssD]) (by simp [fits, width, strsD, valsD, hssD, width_V]) rfl) ?_
    refine .da (X := SF w [b3_21]) (e := strsD ([⟨#[107, 101, 121, 105, 100, 115]⟩, ⟨#[116, 104, 114, 101, 115, 104, 111, 108, 100]⟩])) (sp_bsl (ds := [D.str (⟨#[107, 101, 121, 105, 100, 115]⟩), D.str (⟨#[116, 104, 114, 101, 115, 104, 111, 108, 100]⟩)]) Try.underlying23 sz9 z9 (lbr rfl) (lbr rfl) ⟨rfl, (Has.cst.str (lbr rfl)), ⟨rfl, (Has.cst.str (lbr rfl)), trivial⟩⟩ rfl (by simp [width]) (fr_sf kw (in_cons own_b3_21.lt in_nil))) ?_
    refine .i (sp_move (hbs rfl e5)) ?_
    refine .da (X := SF w [b3_21]) (e := strsD ([ofBytes (List.replicate (lit 64) (97 : Int))])) (sp_bsl (ds := [D.str (ofBytes (List.replicate (lit 64) (97 : Int)))]) Try.underlying23 sz9 z9 (lbr rfl) (lbr rfl) ⟨rfl, ((hlc rfl).str (idb _)), trivial⟩ rfl (by simp [width]) (fr_sf kw (in_cons own_b3_21.lt in_nil))) ?_
    refine .da (X := Fr W28) (e := V.d (txtsV ([ofBytes (List.replicate (lit 64) (97 : Int))]))) (sp_call1 (φ1 := IsD (SF w [b3_21]) (strsD ([ofBytes (List.replicate (lit 64) (97 : Int))]))) ent19 (hlc rfl) (fun g u1 W hk hgk h1 => (refTexts_ok ([ofBytes (List.replicate (lit 64) (97 : Int))]) (Nat.le_of_ble_eq_true (by kernel_rfl)) W _ _ h1).mono (ret_fr hk hgk))) ?_
    refine .i (v := (.agg #[(.int .u8 (3)), (.int .i64 (0)), (.string (⟨#[49]⟩)), (.slice none 0 0), (.slice none 0 0)])) (sp_build (vs := [(0, (.int .u8 (3))), (2, (.string (⟨#[49]⟩)))]) Try.underlying33 z33 (pl33 Try.underlying33) ⟨rfl, Has.cst, rfl, Has.cst, trivial⟩ rfl) ?_
    refine .da (X := SF w [b3_21]) (e := valsD ([txtsV ([ofBytes (List.replicate (lit 64) (97 : Int))]), V.mk (3) (0) (⟨#[49]⟩) ([]) ([])])) (sp_bsl (ds := [V.d (txtsV ([ofBytes (List.replicate (lit 64) (97 : Int))])), V.d (V.mk (3) (0) (⟨#[49]⟩) ([]) ([]))]) Try.underlying31 sz33 z33 (lbr rfl) (lbr rfl) ⟨rfl, ((hlc rfl).sup (fr_sf kw (in_cons own_b3_21.lt in_nil))), ⟨rfl, ((hlc rfl).dat (rdV_mk (lbr rfl) (rd_nil _) (rd_nil _) : Rd W28 (SF w [b3_21]) (V.d (V.mk (3) (0) (⟨#[49]⟩) ([]) ([]))) _) sub_all), trivial⟩⟩ rfl (by intro e he; simp at he; rcases he with rfl | rfl <;> exact width_V _) (fr_sf kw (in_cons own_b3_21.lt in_nil))) ?_
    refine .da (X := SF w [b3_21]) (e := V.d (V.mk (5) (0) (⟨#[]⟩) ([⟨#[107, 101, 121, 105, 100, 115]⟩, ⟨#[116, 104, 114, 101, 115, 104, 111, 108, 100]⟩]) ([txtsV ([ofBytes (List.replicate (lit 64) (97 : Int))]), V.mk (3) (0) (⟨#[49]⟩) ([]) ([])]))) (sp_buildD (zd := [.int .u8 0, .int .i64 0, .str ⟨#[]⟩, strsD [], valsD []]) (es := [(0, D.int .u8 (5)), (3, strsD ([⟨#[107, 101, 121, 105, 100, 115]⟩, ⟨#[116, 104, 114, 101, 115, 104, 111, 108, 100]⟩])), (4, valsD ([txtsV ([ofBytes (List.replicate (lit 64) (97 : Int))]), V.mk (3) (0) (⟨#[49]⟩) ([]) ([])]))]) Try.underlying33 z33 (pl33 Try.underlying33) ⟨rfl, Has.cst.int, ⟨rfl, (hlc rfl), ⟨rfl, (hlc rfl), trivial⟩⟩⟩ zV rfl (by simp [fits, width, strsD, valsD]) (by rw [V.d_eq]; rfl)) ?_
    refine .da (X := SF w [b3_21]) (e := Ro.d (Ro.mk (V.mk (5) (0) (⟨#[]⟩) ([⟨#[107, 101, 121, 105, 100, 115]⟩, ⟨#[116, 104, 114, 101, 115, 104, 111, 108, 100]⟩]) ([txtsV ([ofBytes (List.replicate (lit 64) (97 : Int))]), V.mk (3) (0) (⟨#[49]⟩) ([]) ([])])) (10))) (sp_buildD (zd := [V.d V.zero, D.int .i64 0]) (es := [(0, V.d (V.mk (5) (0) (⟨#[]⟩) ([⟨#[107, 101, 121, 105, 100, 115]⟩, ⟨#[116, 104, 114, 101, 115, 104, 111, 108, 100]⟩]) ([txtsV ([ofBytes (List.replicate (lit 64) (97 : Int))]), V.mk (3) (0) (⟨#[49]⟩) ([]) ([])]))), (1, D.int .i64 (10))]) Try.underlying36 z36 (pl36 Try.underlying36) ⟨rfl, (hlc rfl), ⟨rfl, Has.cst.int, trivial⟩⟩ zRo (by first | rfl | simp [plOf, width, width_V, hssD]) (by simp [fits, width, strsD, valsD, hssD, width_V]) rfl) ?_
    refine .i (sp_move (hbs rfl e5)) ?_
    refine .da (X := SF w [b3_21]) (e := strsD ([ofBytes (List.replicate (lit 64) (97 : Int))])) (sp_bsl (ds := [D.str (ofBytes (List.replicate (lit 64) (97 : Int)))]) Try.underlying23 sz9 z9 (lbr rfl) (lbr rfl) ⟨rfl, ((hlc rfl).str (idb _)), trivial⟩ rfl (by simp [width]) (fr_sf kw (in_cons own_b3_21.lt in_nil))) ?_
    refine .da (X := Fr W28) (e := V.d (objV 1 ([ofBytes (List.replicate (lit 64) (97 : Int))]))) (sp_call2 (φ1 := Is (.int .i64 (1))) (φ2 := IsD (SF w [b3_21]) (strsD ([ofBytes (List.replicate (lit 64) (97 : Int))]))) ent17 Has.cst (hlc rfl) (fun g u1 u2 W hk hgk h1 h2 => by have h1 : u1 = _ := h1; subst u1; exact (object_ok (1) ([ofBytes (List.replicate (lit 64) (97 : Int))]) (Nat.le_of_ble_eq_true (by kernel_rfl)) W _ _ h2).mono (ret_fr hk hgk))) ?_
    refine .da (X := Fr W28) (e := Ro.d (Ro.mk (objV 1 ([ofBytes (List.replicate (lit 64) (97 : Int))])) (0))) (sp_buildD (zd := [V.d V.zero, D.int .i64 0]) (es := [(0, V.d (objV 1 ([ofBytes (List.replicate (lit 64) (97 : Int))]))), (1, D.int .i64 (0))]) Try.underlying36 z36 (pl36 Try.underlying36) ⟨rfl, (hlc rfl), ⟨rfl, Has.cst.int, trivial⟩⟩ zRo (by first | rfl | simp [plOf, width, width_V, hssD]) (by simp [fits, width, strsD, valsD, hssD, width_V]) rfl) ?_
    refine .da (X := SF w [b3_21]) (e := rosD ([Ro.mk (objV 1 (allK 17)) (5), Ro.mk (objV 0 ([])) (4), Ro.mk (objV 2 ([ofBytes (List.replicate (lit 64) (97 : Int))])) (1), Ro.mk (objV 0 ([ofBytes (List.replicate (lit 64) (97 : Int))])) (1), Ro.mk (objV 9 ([ofBytes (List.replicate (lit 64) (97 : Int)), ofBytes (List.replicate (lit 64) (97 : Int))])) (7), Ro.mk (objV 9 ([⟨#[120]⟩, ofBytes (List.replicate (lit 64) (97 : Int)), ofBytes (List.replicate (lit 64) (97 : Int))])) (3), Ro.mk (objV 9 ([ofBytes (List.replicate (lit 64) (97 : Int)), ofBytes (List.replicate (lit 64) (97 : Int)), ⟨#[120]⟩])) (7), Ro.mk (objV 1 ([(ofBytes (List.replicate (lit 64) (97 : Int))).extract 1 (ofBytes (List.replicate (lit 64) (97 : Int))).size])) (3), Ro.mk (objV 1 ([(ofBytes (List.replicate (lit 64) (97 : Int))) ++ (⟨#[97]⟩ : ByteArray)])) (3), Ro.mk (objV 1 ([((ofBytes (List.replicate (lit 64) (97 : Int))).extract 0 63) ++ (⟨#[65]⟩ : ByteArray)])) (3), Ro.mk (V.mk (4) (0) (⟨#[]⟩) ([]) ([])) (10), Ro.mk (V.mk (0) (0) (⟨#[]⟩) ([]) ([])) (3), Ro.mk (V.mk (5) (0) (⟨#[]⟩) ([]) ([])) (6), Ro.mk (V.mk (5) (0) (⟨#[]⟩) ([⟨#[107, 101, 121, 105, 100, 115]⟩]) ([txtsV ([ofBytes (List.replicate (lit 64) (97 : Int))])])) (6), Ro.mk (V.mk (5) (0) (⟨#[]⟩) ([⟨#[107, 101, 121, 105, 100, 115]⟩, ⟨#[109, 111, 114, 101]⟩, ⟨#[116, 104, 114, 101, 115, 104, 111, 108, 100]⟩]) ([txtsV ([ofBytes (List.replicate (lit 64) (97 : Int))]), V.mk (4) (0) (⟨#[]⟩) ([]) ([]), V.mk (2) (1) (⟨#[]⟩) ([]) ([])])) (11), Ro.mk (V.mk (5) (0) (⟨#[]⟩) ([⟨#[107, 101, 121, 105, 100, 115]⟩, ⟨#[116, 104, 114, 101, 115, 104, 111, 108, 100]⟩]) ([txtsV ([ofBytes (List.replicate (lit 64) (97 : Int))]), V.mk (3) (0) (⟨#[49]⟩) ([]) ([])])) (10), Ro.mk (objV 1 ([ofBytes (List.replicate (lit 64) (97 : Int))])) (0)])) (sp_bsl (ds := [Ro.d (Ro.mk (objV 1 (allK 17)) (5)), Ro.d (Ro.mk (objV 0 ([])) (4)), Ro.d (Ro.mk (objV 2 ([ofBytes (List.replicate (lit 64) (97 : Int))])) (1)), Ro.d (Ro.mk (objV 0 ([ofBytes (List.replicate (lit 64) (97 : Int))])) (1)), Ro.d (Ro.mk (objV 9 ([ofBytes (List.replicate (lit 64) (97 : Int)), ofBytes (List.replicate (lit 64) (97 : Int))])) (7)), Ro.d (Ro.mk (objV 9 ([⟨#[120]⟩, ofBytes (List.replicate (lit 64) (97 : Int)), ofBytes (List.replicate (lit 64) (97 : Int))])) (3)), Ro.d (Ro.mk (objV 9 ([ofBytes (List.replicate (lit 64) (97 : Int)), ofBytes (List.replicate (lit 64) (97 : Int)), ⟨#[120]⟩])) (7)), Ro.d (Ro.mk (objV 1 ([(ofBytes (List.replicate (lit 64) (97 : Int))).extract 1 (ofBytes (List.replicate (lit 64) (97 : Int))).size])) (3)), Ro.d (Ro.mk (objV 1 ([(ofBytes (List.replicate (lit 64) (97 : Int))) ++ (⟨#[97]⟩ : ByteArray)])) (3)), Ro.d (Ro.mk (objV 1 ([((ofBytes (List.replicate (lit 64) (97 : Int))).extract 0 63) ++ (⟨#[65]⟩ : ByteArray)])) (3)), Ro.d (Ro.mk (V.mk (4) (0) (⟨#[]⟩) ([]) ([])) (10)), Ro.d (Ro.mk (V.mk (0) (0) (⟨#[]⟩) ([]) ([])) (3)), Ro.d (Ro.mk (V.mk (5) (0) (⟨#[]⟩) ([]) ([])) (6)), Ro.d (Ro.mk (V.mk (5) (0) (⟨#[]⟩) ([⟨#[107, 101, 121, 105, 100, 115]⟩]) ([txtsV ([ofBytes (List.replicate (lit 64) (97 : Int))])])) (6)), Ro.d (Ro.mk (V.mk (5) (0) (⟨#[]⟩) ([⟨#[107, 101, 121, 105, 100, 115]⟩, ⟨#[109, 111, 114, 101]⟩, ⟨#[116, 104, 114, 101, 115, 104, 111, 108, 100]⟩]) ([txtsV ([ofBytes (List.replicate (lit 64) (97 : Int))]), V.mk (4) (0) (⟨#[]⟩) ([]) ([]), V.mk (2) (1) (⟨#[]⟩) ([]) ([])])) (11)), Ro.d (Ro.mk (V.mk (5) (0) (⟨#[]⟩) ([⟨#[107, 101, 121, 105, 100, 115]⟩, ⟨#[116, 104, 114, 101, 115, 104, 111, 108, 100]⟩]) ([txtsV ([ofBytes (List.replicate (lit 64) (97 : Int))]), V.mk (3) (0) (⟨#[49]⟩) ([]) ([])])) (10)), Ro.d (Ro.mk (objV 1 ([ofBytes (List.replicate (lit 64) (97 : Int))])) (0))]) Try.underlying38 sz36 z36 (lbr rfl) (lbr rfl) ⟨rfl, ((hlc rfl).sup (fr_sf kw (in_cons own_b3_21.lt in_nil))), ⟨rfl, ((hlc rfl).sup (fr_sf kw (in_cons own_b3_21.lt in_nil))), ⟨rfl, ((hlc rfl).sup (fr_sf kw (in_cons own_b3_21.lt in_nil))), ⟨rfl, ((hlc rfl).sup (fr_sf kw (in_cons own_b3_21.lt in_nil))), ⟨rfl, ((hlc rfl).sup (fr_sf kw (in_cons own_b3_21.lt in_nil))), ⟨rfl, ((hlc rfl).sup (fr_sf kw (in_cons own_b3_21.lt in_nil))), ⟨rfl, ((hlc rfl).sup (fr_sf kw (in_cons own_b3_21.lt in_nil))), ⟨rfl, ((hlc rfl).sup (fr_sf kw (in_cons own_b3_21.lt in_nil))), ⟨rfl, ((hlc rfl).sup (fr_sf kw (in_cons own_b3_21.lt in_nil))), ⟨rfl, ((hlc rfl).sup (fr_sf kw (in_cons own_b3_21.lt in_nil))), ⟨rfl, ((hlc rfl).dat (rdRo_mk (rdV_mk (lbr rfl) (rd_nil _) (rd_nil _) : Rd W28 (SF w [b3_21]) (V.d (V.mk (4) (0) (⟨#[]⟩) ([]) ([]))) _) : Rd W28 (SF w [b3_21]) (Ro.d (Ro.mk (V.mk (4) (0) (⟨#[]⟩) ([]) ([])) (10))) _) sub_all), ⟨rfl, ((hlc rfl).dat (rdRo_mk (rdV_mk (lbr rfl) (rd_nil _) (rd_nil _) : Rd W28 (SF w [b3_21]) (V.d (V.mk (0) (0) (⟨#[]⟩) ([]) ([]))) _) : Rd W28 (SF w [b3_21]) (Ro.d (Ro.mk (V.mk (0) (0) (⟨#[]⟩) ([]) ([])) (3))) _) sub_all), ⟨rfl, ((hlc rfl).dat (rdRo_mk (rdV_mk (lbr rfl) (rd_nil _) (rd_nil _) : Rd W28 (SF w [b3_21]) (V.d (V.mk (5) (0) (⟨#[]⟩) ([]) ([]))) _) : Rd W28 (SF w [b3_21]) (Ro.d (Ro.mk (V.mk (5) (0) (⟨#[]⟩) ([]) ([])) (6))) _) sub_all), ⟨rfl, (hlc rfl), ⟨rfl, (hlc rfl), ⟨rfl, (hlc rfl), ⟨rfl, ((hlc rfl).sup (fr_sf kw (in_cons own_b3_21.lt in_nil))), trivial⟩⟩⟩⟩⟩⟩⟩⟩⟩⟩⟩⟩⟩⟩⟩⟩⟩ rfl (by intro e he; simp at he; rcases he with rfl | rfl | rfl | rfl | rfl | rfl | rfl | rfl | rfl | rfl | rfl | rfl | rfl | rfl | rfl | rfl | rfl <;> exact width_Ro _) (fr_sf kw (in_cons own_b3_21.lt in_nil))) ?_
    refine .i (sp_lenL Try.underlying38 (hlc rfl)) ?_
    refine .i (sp_move Has.cst) ?_
    refine .done ⟨by kernel_rfl, fun a31 g W31 y31 zz31 hk hg hV hR hP => ?_⟩
    obtain ⟨e140, e139, e138, -, -, -, -, -, -, -, -, -, -, -, -, -, -, -, -, -, -, -, -, -, -, -, -, -, -, -, -, -, -, -, -, -, -, -, -, -, -, -, -, -, -, -, -, -, -, -, -, -, -, -, -, -, -, -, -, -, -, -, -, -, -, -, -, -, -, -, -, -, -, -, -, -, -, -, -, -, -, -⟩ := hV
    replace e5 := (hR 5 rfl).trans e5
    replace D_vs1_12 := D_vs1_12.ext hk
    obtain ⟨v138_31, ev⟩ : ∃ v, sl a31 138 = v := ⟨_, rfl⟩
    rw [ev] at e138
    have D_v138_31 : Rd W31 (SF w [b3_21]) (rosD ([Ro.mk (objV 1 (allK 17)) (5), Ro.mk (objV 0 ([])) (4), Ro.mk (objV 2 ([ofBytes (List.replicate (lit 64) (97 : Int))])) (1), Ro.mk (objV 0 ([ofBytes (List.replicate (lit 64) (97 : Int))])) (1), Ro.mk (objV 9 ([ofBytes (List.replicate (lit 64) (97 : Int)), ofBytes (List.replicate (lit 64) (97 : Int))])) (7), Ro.mk (objV 9 ([⟨#[120]⟩, ofBytes (List.replicate (lit 64) (97 : Int)), ofBytes (List.replicate (lit 64) (97 : Int))])) (3), Ro.mk (objV 9 ([ofBytes (List.replicate (lit 64) (97 : Int)), ofBytes (List.replicate (lit 64) (97 : Int)), ⟨#[120]⟩])) (7), Ro.mk (objV 1 ([(ofBytes (List.replicate (lit 64) (97 : Int))).extract 1 (ofBytes (List.replicate (lit 64) (97 : Int))).size])) (3), Ro.mk (objV 1 ([(ofBytes (List.replicate (lit 64) (97 : Int))) ++ (⟨#[97]⟩ : ByteArray)])) (3), Ro.mk (objV 1 ([((ofBytes (List.replicate (lit 64) (97 : Int))).extract 0 63) ++ (⟨#[65]⟩ : ByteArray)])) (3), Ro.mk (V.mk (4) (0) (⟨#[]⟩) ([]) ([])) (10), Ro.mk (V.mk (0) (0) (⟨#[]⟩) ([]) ([])) (3), Ro.mk (V.mk (5) (0) (⟨#[]⟩) ([]) ([])) (6), Ro.mk (V.mk (5) (0) (⟨#[]⟩) ([⟨#[107, 101, 121, 105, 100, 115]⟩]) ([txtsV ([ofBytes (List.replicate (lit 64) (97 : Int))])])) (6), Ro.mk (V.mk (5) (0) (⟨#[]⟩) ([⟨#[107, 101, 121, 105, 100, 115]⟩, ⟨#[109, 111, 114, 101]⟩, ⟨#[116, 104, 114, 101, 115, 104, 111, 108, 100]⟩]) ([txtsV ([ofBytes (List.replicate (lit 64) (97 : Int))]), V.mk (4) (0) (⟨#[]⟩) ([]) ([]), V.mk (2) (1) (⟨#[]⟩) ([]) ([])])) (11), Ro.mk (V.mk (5) (0) (⟨#[]⟩) ([⟨#[107, 101, 121, 105, 100, 115]⟩, ⟨#[116, 104, 114, 101, 115, 104, 111, 108, 100]⟩]) ([txtsV ([ofBytes (List.replicate (lit 64) (97 : Int))]), V.mk (3) (0) (⟨#[49]⟩) ([]) ([])])) (10), Ro.mk (objV 1 ([ofBytes (List.replicate (lit 64) (97 : Int))])) (0)])) v138_31 := sf_end e138 hk [] in_nil
    replace e138 := ev; clear ev
    obtain ⟨v138_31a, v138_31c, ev, D2⟩ := rdRos_out D_v138_31
    subst ev; replace D_v138_31 := D2; clear D2
    replace e139 := e139.q
    have e140 : sl a31 140 = (.int .i64 (0)) := e140
    replace own_b3_21 := own_b3_21.ext hk
    replace kw := kw.x hk
    clear hR hk hg hP
    obtain ⟨L, hL⟩ : ∃ L, L = [Ro.mk (objV 1 (allK 17)) (5), Ro.mk (objV 0 ([])) (4), Ro.mk (objV 2 ([ofBytes (List.replicate (lit 64) (97 : Int))])) (1), Ro.mk (objV 0 ([ofBytes (List.replicate (lit 64) (97 : Int))])) (1), Ro.mk (objV 9 ([ofBytes (List.replicate (lit 64) (97 : Int)), ofBytes (List.replicate (lit 64) (97 : Int))])) (7), Ro.mk (objV 9 ([⟨#[120]⟩, ofBytes (List.replicate (lit 64) (97 : Int)), ofBytes (List.replicate (lit 64) (97 : Int))])) (3), Ro.mk (objV 9 ([ofBytes (List.replicate (lit 64) (97 : Int)), ofBytes (List.replicate (lit 64) (97 : Int)), ⟨#[120]⟩])) (7), Ro.mk (objV 1 ([(ofBytes (List.replicate (lit 64) (97 : Int))).extract 1 (ofBytes (List.replicate (lit 64) (97 : Int))).size])) (3), Ro.mk (objV 1 ([(ofBytes (List.replicate (lit 64) (97 : Int))) ++ (⟨#[97]⟩ : ByteArray)])) (3), Ro.mk (objV 1 ([((ofBytes (List.replicate (lit 64) (97 : Int))).extract 0 63) ++ (⟨#[65]⟩ : ByteArray)])) (3), Ro.mk (V.mk (4) (0) (⟨#[]⟩) ([]) ([])) (10), Ro.mk (V.mk (0) (0) (⟨#[]⟩) ([]) ([])) (3), Ro.mk (V.mk (5) (0) (⟨#[]⟩) ([]) ([])) (6), Ro.mk (V.mk (5) (0) (⟨#[]⟩) ([⟨#[107, 101, 121, 105, 100, 115]⟩]) ([txtsV ([ofBytes (List.replicate (lit 64) (97 : Int))])])) (6), Ro.mk (V.mk (5) (0) (⟨#[]⟩) ([⟨#[107, 101, 121, 105, 100, 115]⟩, ⟨#[109, 111, 114, 101]⟩, ⟨#[116, 104, 114, 101, 115, 104, 111, 108, 100]⟩]) ([txtsV ([ofBytes (List.replicate (lit 64) (97 : Int))]), V.mk (4) (0) (⟨#[]⟩) ([]) ([]), V.mk (2) (1) (⟨#[]⟩) ([]) ([])])) (11), Ro.mk (V.mk (5) (0) (⟨#[]⟩) ([⟨#[107, 101, 121, 105, 100, 115]⟩, ⟨#[116, 104, 114, 101, 115, 104, 111, 108, 100]⟩]) ([txtsV ([ofBytes (List.replicate (lit 64) (97 : Int))]), V.mk (3) (0) (⟨#[49]⟩) ([]) ([])])) (10), Ro.mk (objV 1 ([ofBytes (List.replicate (lit 64) (97 : Int))])) (0)] := ⟨_, rfl⟩
    rw [← hL] at e138 e139 D_v138_31
    have hall : L.all rowOk = true := by rw [hL]; kernel_rfl
    have hlen : L.length = 17 := by rw [hL]; rfl
    clear hL
    refine tail_nil (hK30 _ _ ?_)
    refine wp_block ?_
    replace D_v138_31 := sf_less (M' := []) D_v138_31 ls_nil
    refine wp_for (L.length) (fun k a W => a.tmps.size = 196 ∧ a.defers = [] ∧ Keeps All w W ∧ sl a 5 = (.string (ofBytes (List.replicate (lit 64) (97 : Int)))) ∧ sl a 138 = (.slice v138_31a (L.length) v138_31c) ∧ sl a 139 = (.int .i64 (L.length)) ∧ sl a 140 = (.int .i64 ((k : Nat))) ∧ Rd W (SF w []) (rosD (L)) (.slice v138_31a (L.length) v138_31c)) ⟨y31, zz31, kw, e5, e138, e139, (e140.trans (congrArg (Value.int .i64) (rfl))), D_v138_31⟩ ?_
    clear kw e5 e138 e139 e140 D_v138_31
    rintro k a32 W32 hkk ⟨y32, zz32, kw, e5, e138, e139, e140, D_v138_31⟩
    refine wp_seq_k fun K33 hK33 => ?_
    refine rg mixed y32 zz32 ?_
    refine .i (sp_lss (hbs rfl e140) (hbs rfl e139)) ?_
    refine .done ⟨by kernel_rfl, fun a34 g W34 y34 zz34 hk hg hV hR hP => ?_⟩
    obtain ⟨e141, -⟩ := hV
    replace e5 := (hR 5 rfl).trans e5
    replace e138 := (hR 138 rfl).trans e138
    replace e139 := (hR 139 rfl).trans e139
    replace e140 := (hR 140 rfl).trans e140
    replace D_v138_31 := D_v138_31.ext hk
    replace e141 := e141.q
    replace kw := kw.x hk
    clear hR hk hg hP
    refine tail_nil (hK33 _ _ ?_)
    refine wp_seq_k fun K35 hK35 => ?_
    refine wp_cond_split e141 (fun hc => ?_) (fun hc => ?_)
    ·
     have hlt : k < L.length := by simpa using hc
     have hro := rowOk_get hall hlt
     refine wp_skip (hK35 _ _ ?_)
     refine wp_seq_k fun K36 hK36 => ?_
     refine wp_block ?_
     refine wp_seq_k fun K37 hK37 => ?_
     refine rg mixed y34 zz34 ?_
     refine .rf (X := SF w []) (e := Ro.d (L[k]'hlt)) (sp_indexL (i := k) ((hbs rfl e138).dat D_v138_31 sub_all) (hbs rfl e140) Try.underlying38 sz36 rfl hlt) ?_
     refine .da (X := SF w []) (e := Ro.d (L[k]'hlt)) (sp_loadR (hlc rfl) agg36 sz36 (width_Ro _)) ?_
     refine .alloc z36 ?_
     refine .done ⟨by kernel_rfl, fun a38 g W38 y38 zz38 hk hg hV hR hP => ?_⟩
     obtain ⟨⟨b7_38, e7, hb7, own_b7_38⟩, e143, -, -⟩ := hV
     have lo_b7_38 : w.heap.size ≤ b7_38 := Nat.le_trans kw.size (hg.lo _ _ hb7)
     have own_b7_38 : Own W38 b7_38 [(.int .u8 (0)), (.int .i64 (0)), (.string (⟨#[]⟩)), (.slice none 0 0), (.slice none 0 0), (.int .i64 (0))] 36 := own_b7_38
     replace e5 := (hR 5 rfl).trans e5
     replace e138 := (hR 138 rfl).trans e138
     replace e139 := (hR 139 rfl).trans e139
     replace e140 := (hR 140 rfl).trans e140
     replace D_v138_31 := sf_more D_v138_31 hk [b7_38] (in_cons (hg.lo _ _ hb7) in_nil)
     obtain ⟨v143_38, ev⟩ : ∃ v, sl a38 143 = v := ⟨_, rfl⟩
     rw [ev] at e143
     have D_v143_38 : Rd W38 (SF w [b7_38]) (Ro.d (L[k]'hlt)) v143_38 := sf_end e143 hk [b7_38] (in_cons ⟨_, hb7⟩ in_nil)
     replace e143 := ev; clear ev
     obtain ⟨v143_38_3a, v143_38_3c, v143_38_4a, v143_38_4c, ev, hb_v143_38_2, D_v143_38_3, D_v143_38_4⟩ := rdRo_out D_v143_38
     subst ev; clear D_v143_38
     replace kw := kw.x hk
     clear hR hk hg hP hb7
     refine tail_store (b := b7_38) (o := 0) (v := (.agg #[(.int .u8 ((L[k]'hlt).v.k)), (.int .i64 ((L[k]'hlt).v.n)), (.string ((L[k]'hlt).v.t)), (.slice v143_38_3a (((L[k]'hlt).v.ns).length) v143_38_3c), (.slice v143_38_4a (((L[k]'hlt).v.xs).length) v143_38_4c), (.int .i64 ((L[k]'hlt).e))])) e7 e143 sz36 rfl own_b7_38 (lbr rfl) (all_cons rfl (all_cons rfl (all_cons rfl (all_cons rfl (all_cons rfl (all_cons rfl all_nil)))))) (fun W39 hs own_b7_38 => ?_)
     have own_b7_38 : Own W39 b7_38 [(.int .u8 ((L[k]'hlt).v.k)), (.int .i64 ((L[k]'hlt).v.n)), (.string ((L[k]'hlt).v.t)), (.slice v143_38_3a (((L[k]'hlt).v.ns).length) v143_38_3c), (.slice v143_38_4a (((L[k]'hlt).v.xs).length) v143_38_4c), (.int .i64 ((L[k]'hlt).e))] 36 := own_b7_38
     replace D_v138_31 := sf_store D_v138_31 hs (by simp)
     replace D_v143_38_3 := sf_store D_v143_38_3 hs (by simp)
     replace D_v143_38_4 := sf_store D_v143_38_4 hs (by simp)
     replace kw := keeps_store kw hs lo_b7_38
     clear hs
     refine tail_nil (hK37 _ _ ?_)
     refine wp_seq_k fun K40 hK40 => ?_
     refine rg mixed y38 zz38 ?_
     refine .i (fo 0 (hbs rfl e7) Try.underlying36 rfl sz33 rfl) ?_
     refine .i (v := (.agg #[(.int .u8 ((L[k]'hlt).v.k)), (.int .i64 ((L[k]'hlt).v.n)), (.string ((L[k]'hlt).v.t)), (.slice v143_38_3a (((L[k]'hlt).v.ns).length) v143_38_3c), (.slice v143_38_4a (((L[k]'hlt).v.xs).length) v143_38_4c)])) (loA (hlc rfl) own_b7_38 trivial agg33 sz33 rfl rfl) ?_
     refine .op (φ := IsT (IsD (Fr W39) (Au.d (ofAV ((L[k]'hlt).v)))) (Is (.int .i64 (ofAE ((L[k]'hlt).v))))) (st_t (st_d sub_all) (st_is _)) (sp_call1 (φ1 := IsD (SF w [b7_38]) (V.d ((L[k]'hlt).v))) ent16 ((hlc rfl).dat (rdV_in (x := (L[k]'hlt).v) hb_v143_38_2 D_v143_38_3 D_v143_38_4 : Rd W39 (SF w [b7_38]) (V.d ((L[k]'hlt).v)) _) sub_all) (fun g u1 W hk hgk h1 => (authOf_ok ((L[k]'hlt).v) (hro.2.2) W _ _ (fun b o h => h.1.2.1) h1).mono (fun _ _ ⟨v, h1, h2, r1, h3, h4⟩ => ⟨v, h1, h2, r1, _, h3, fresh_d hk hgk h4, rfl⟩))) ?_
     refine .op (φ := IsT (IsD (Fr W39) (Au.d (ofAV ((L[k]'hlt).v)))) (Is (.int .i64 (ofAE ((L[k]'hlt).v))))) (st_t (st_d sub_all) (st_is _)) (sp_move (hlc rfl)) ?_
     refine .da (X := Fr W39) (e := Au.d (ofAV ((L[k]'hlt).v))) (sp_ext2 (hlc rfl) rfl) ?_
     refine .i (v := (.int .i64 (ofAE ((L[k]'hlt).v)))) (sp_ext2' (hlc rfl) rfl) ?_
     refine .alloc z27 ?_
     refine .done ⟨by kernel_rfl, fun a41 g W41 y41 zz41 hk hg hV hR hP => ?_⟩
     obtain ⟨⟨b8_41, e8, hb8, own_b8_41⟩, e149, e148, -, -, -, -, -⟩ := hV
     have lo_b8_41 : w.heap.size ≤ b8_41 := Nat.le_trans kw.size (hg.lo _ _ hb8)
     have ne_b7_38_b8_41 : b7_38 ≠ b8_41 := Nat.ne_of_lt (Nat.lt_of_lt_of_le own_b7_38.lt (hg.lo _ _ hb8))
     have own_b8_41 : Own W41 b8_41 [(.int .i64 (0)), (.slice none 0 0)] 27 := own_b8_41
     replace e5 := (hR 5 rfl).trans e5
     replace e138 := (hR 138 rfl).trans e138
     replace e139 := (hR 139 rfl).trans e139
     replace e140 := (hR 140 rfl).trans e140
     replace e7 := (hR 7 rfl).trans e7
     replace D_v138_31 := sf_more D_v138_31 hk [b8_41] (in_cons (hg.lo _ _ hb8) in_nil)
     replace D_v143_38_3 := sf_more D_v143_38_3 hk [b8_41] (in_cons (hg.lo _ _ hb8) in_nil)
     replace D_v143_38_4 := sf_more D_v143_38_4 hk [b8_41] (in_cons (hg.lo _ _ hb8) in_nil)
     obtain ⟨v148_41, ev⟩ : ∃ v, sl a41 148 = v := ⟨_, rfl⟩
     rw [ev] at e148
     have D_v148_41 : Rd W41 (SF w [b8_41, b7_38]) (Au.d (ofAV ((L[k]'hlt).v))) v148_41 := fr_end (M := [b7_38]) e148 kw [b8_41] (in_cons ⟨_, hb8⟩ in_nil) (in_cons own_b7_38.lt in_nil)
     replace e148 := ev; clear ev
     obtain ⟨v148_41_1a, v148_41_1c, ev, D_v148_41_1⟩ := rdAu_out D_v148_41
     subst ev; clear D_v148_41
     have e149 : sl a41 149 = (.int .i64 (ofAE ((L[k]'hlt).v))) := e149
     replace own_b7_38 := own_b7_38.ext hk
     replace kw := kw.x hk
     clear hR hk hg hP hb8
     refine tail_store (b := b8_41) (o := 0) (v := (.agg #[(.int .i64 ((ofAV ((L[k]'hlt).v)).th)), (.slice v148_41_1a (((ofAV ((L[k]'hlt).v)).ids).length) v148_41_1c)])) e8 e148 sz27 rfl own_b8_41 (lbr rfl) (all_cons rfl (all_cons rfl all_nil)) (fun W42 hs own_b8_41 => ?_)
     have own_b8_41 : Own W42 b8_41 [(.int .i64 ((ofAV ((L[k]'hlt).v)).th)), (.slice v148_41_1a (((ofAV ((L[k]'hlt).v)).ids).length) v148_41_1c)] 27 := own_b8_41
     replace own_b7_38 := own_store own_b7_38 hs ne_b7_38_b8_41
     replace D_v138_31 := sf_store D_v138_31 hs (by simp)
     replace D_v143_38_3 := sf_store D_v143_38_3 hs (by simp)
     replace D_v143_38_4 := sf_store D_v143_38_4 hs (by simp)
     replace D_v148_41_1 := sf_store D_v148_41_1 hs (by simp)
     replace kw := keeps_store kw hs lo_b8_41
     clear hs
     refine tail_assign (v := (.int .i64 (ofAE ((L[k]'hlt).v)))) e149 (by rw [y41]; exact Nat.le_of_ble_eq_true rfl) (fun a43 y43 zz43 e9 hr => ?_)
     replace y43 := y43.trans y41; replace zz43 := zz43.trans zz41
     replace e5 := (hr 5 (by decide)).trans e5
     replace e138 := (hr 138 (by decide)).trans e138
     replace e139 := (hr 139 (by decide)).trans e139
     replace e140 := (hr 140 (by decide)).trans e140
     replace e7 := (hr 7 (by decide)).trans e7
     replace e8 := (hr 8 (by decide)).trans e8
     replace e148 := (hr 148 (by decide)).trans e148
     replace e149 := (hr 149 (by decide)).trans e149
     clear hr
     refine tail_nil (hK40 _ _ ?_)
     refine wp_seq_k fun K44 hK44 => ?_
     refine rg mixed y43 zz43 ?_
     refine .i (sp_move (hbs rfl e9)) ?_
     refine .i (fo 5 (hbs rfl e7) Try.underlying36 rfl sz28 rfl) ?_
     refine .i (lo1 (hlc rfl) own_b7_38 trivial agg28 sz28 rfl) ?_
     refine .i (sp_neq (hlc rfl) (hlc rfl)) ?_
     refine .i (sp_move (hlc rfl)) ?_
     refine .e (t := 154) rfl (hlc rfl) (fun hg => sp_move (hbs rfl e9)) ?_
     refine .e (t := 154) rfl (hlc rfl) (fun hg => sp_neq ((hlc rfl).undE hg) Has.cst) ?_
     refine .e (t := 154) rfl (hlc rfl) (fun hg => sp_move ((hlc rfl).undE hg)) ?_
     refine .opEE (t := 157) (x := (ofAE ((L[k]'hlt).v) : Int) != (0 : Int)) (p := ((ofAE ((L[k]'hlt).v) : Int) != ((L[k]'hlt).e : Int)) = false) (φ := Is (.agg #[(.int .i64 ((ofAV ((L[k]'hlt).v)).th)), (.slice v148_41_1a (((ofAV ((L[k]'hlt).v)).ids).length) v148_41_1c)])) rfl (hlc rfl) (st_is _) (fun hg => sp_loadO (v := (.agg #[(.int .i64 ((ofAV ((L[k]'hlt).v)).th)), (.slice v148_41_1a (((ofAV ((L[k]'hlt).v)).ids).length) v148_41_1c)])) (hbs rfl e8) own_b8_41 trivial agg27 sz27 (lbr rfl) (fun h => by first | rfl | cases h) rfl) ?_
     refine .opEE (t := 157) (x := (ofAE ((L[k]'hlt).v) : Int) != (0 : Int)) (p := ((ofAE ((L[k]'hlt).v) : Int) != ((L[k]'hlt).e : Int)) = false) (φ := Is (.agg #[(.int .i64 (0)), (.slice none 0 0)])) rfl (hlc rfl) (st_is _) (fun hg => sp_build (vs := []) Try.underlying27 z27 (pl27 Try.underlying27) trivial rfl) ?_
     refine .opEE (t := 157) (x := (ofAE ((L[k]'hlt).v) : Int) != (0 : Int)) (p := ((ofAE ((L[k]'hlt).v) : Int) != ((L[k]'hlt).e : Int)) = false) (φ := Is (.bool (sameA (ofAV ((L[k]'hlt).v)) (Au.mk (0) ([]))))) rfl (hlc rfl) (st_is _) (fun hg => sp_call2 (φ1 := IsD (SF w [b8_41, b7_38]) (Au.d ((ofAV ((L[k]'hlt).v))))) (φ2 := IsD (SF w [b8_41, b7_38]) (Au.d (Au.mk (0) ([])))) ent20 (((hlc rfl).undE hg).dat (rdAu_mk D_v148_41_1 : Rd W42 (SF w [b8_41, b7_38]) (Au.d ((ofAV ((L[k]'hlt).v)))) _) sub_all) (((hlc rfl).undE hg).dat (rdAu_mk (rd_nil _) : Rd W42 (SF w [b8_41, b7_38]) (Au.d (Au.mk (0) ([]))) _) sub_all) (fun g u1 u2 W hk hgk h1 h2 => refSameA_ok ((ofAV ((L[k]'hlt).v))) (Au.mk (0) ([])) W _ _ _ h1 h2)) ?_
     refine .opEE (t := 157) (x := (ofAE ((L[k]'hlt).v) : Int) != (0 : Int)) (p := ((ofAE ((L[k]'hlt).v) : Int) != ((L[k]'hlt).e : Int)) = false) (φ := Is (.bool (!(sameA (ofAV ((L[k]'hlt).v)) (Au.mk (0) ([])))))) rfl (hlc rfl) (st_is _) (fun hg => sp_not ((hlc rfl).undE hg)) ?_
     refine .e (t := 154) rfl (hlc rfl) (fun hg => sp_and ((hlc rfl).undE hg) ((hlc rfl).weak fun hq => ⟨hg, hq⟩)) ?_
     refine .i (sp_or (hlc rfl) ((hlc rfl).weak fun hq => hq)) ?_
     refine .done ⟨by kernel_rfl, fun a45 g W45 y45 zz45 hk hg hV hR hP => ?_⟩
     obtain ⟨e163, -, -, -, -, -, -, -, -, -, -, -, -, -, -⟩ := hV
     replace e5 := (hR 5 rfl).trans e5
     replace e138 := (hR 138 rfl).trans e138
     replace e139 := (hR 139 rfl).trans e139
     replace e140 := (hR 140 rfl).trans e140
     replace D_v138_31 := D_v138_31.ext hk
     replace D_v143_38_3 := D_v143_38_3.ext hk
     replace D_v143_38_4 := D_v143_38_4.ext hk
     replace D_v148_41_1 := D_v148_41_1.ext hk
     replace e163 := e163.q
     replace own_b7_38 := own_b7_38.ext hk
     replace own_b8_41 := own_b8_41.ext hk
     replace kw := kw.x hk
     clear hR hk hg hP
     refine tail_nil (hK44 _ _ ?_)
     refine wp_cond_split e163 (fun hc => ?_) (fun hc => ?_)
     ·
      exfalso
      rw [hro.1] at hc
      rcases hro.2.1 with h | h
      · rw [hro.1] at h; simp [h] at hc
      · simp [h] at hc
     ·
      refine wp_skip (hK36 _ _ ?_)
      refine rg mixed y45 zz45 ?_
      refine .i (sp_add (hbs rfl e140) Has.cst (i64_in (by omega))) ?_
      refine .i (sp_move (hlc rfl)) ?_
      refine .done ⟨by kernel_rfl, fun a46 g W46 y46 zz46 hk hg hV hR hP => ?_⟩
      obtain ⟨e140, -, -⟩ := hV
      replace e5 := (hR 5 rfl).trans e5
      replace e138 := (hR 138 rfl).trans e138
      replace e139 := (hR 139 rfl).trans e139
      replace D_v138_31 := D_v138_31.ext hk
      replace e140 := e140.q
      replace own_b7_38 := own_b7_38.ext hk
      replace own_b8_41 := own_b8_41.ext hk
      replace kw := kw.x hk
      clear hR hk hg hP
      exact tail_nil ⟨hlt, y46, zz46, kw, e5, e138, e139, (e140.trans (congrArg (Value.int .i64) (by simp))), (sf_less D_v138_31 ls_nil)⟩
    ·
     have hge0 : ¬ k < L.length := by simpa using hc
     have hge : k = L.length := by omega
     have hof : ofE (objV 1 [ofBytes (List.replicate (lit 64) (97 : Int))]) = 0 := by kernel_rfl
     refine wp_exit (hK29 _ _ ?_)
     refine wp_seq_k fun K47 hK47 => ?_
     refine rg mixed y34 zz34 ?_
     refine .i (sp_assign Has.cst) ?_
     refine .done ⟨by kernel_rfl, fun a48 g W48 y48 zz48 hk hg hV hR hP => ?_⟩
     obtain ⟨e10, -⟩ := hV
     replace e5 := (hR 5 rfl).trans e5
     replace D_v138_31 := D_v138_31.ext hk
     have e10 : sl a48 10 = (.pointer none) := e10
     replace kw := kw.x hk
     clear hR hk hg hP
     refine tail_nil (hK47 _ _ ?_)
     refine wp_seq_k fun K49 hK49 => ?_
     refine rg mixed y48 zz48 ?_
     refine .i (sp_move (hbs rfl e5)) ?_
     refine .da (X := SF w []) (e := strsD ([ofBytes (List.replicate (lit 64) (97 : Int))])) (sp_bsl (ds := [D.str (ofBytes (List.replicate (lit 64) (97 : Int)))]) Try.underlying23 sz9 z9 (lbr rfl) (lbr rfl) ⟨rfl, ((hlc rfl).str (idb _)), trivial⟩ rfl (by simp [width]) (fr_sf kw in_nil)) ?_
     refine .da (X := Fr W48) (e := V.d (objV 1 ([ofBytes (List.replicate (lit 64) (97 : Int))]))) (sp_call2 (φ1 := Is (.int .i64 (1))) (φ2 := IsD (SF w []) (strsD ([ofBytes (List.replicate (lit 64) (97 : Int))]))) ent17 Has.cst (hlc rfl) (fun g u1 u2 W hk hgk h1 h2 => by have h1 : u1 = _ := h1; subst u1; exact (object_ok (1) ([ofBytes (List.replicate (lit 64) (97 : Int))]) (Nat.le_of_ble_eq_true (by kernel_rfl)) W _ _ h2).mono (ret_fr hk hgk))) ?_
     refine .op (φ := IsPk W48 74 (objV 1 ([ofBytes (List.replicate (lit 64) (97 : Int))])) ([]) (0)) st_pk (sp_call1 (φ1 := IsD (Fr W48) (V.d (objV 1 ([ofBytes (List.replicate (lit 64) (97 : Int))])))) ent21 (hlc rfl) (fun g u1 W hk hgk h1 => (Of_ok (objV 1 ([ofBytes (List.replicate (lit 64) (97 : Int))])) (Nat.le_of_ble_eq_true (by kernel_rfl)) hof W _ _ (fun b o h => h.1.2) h1).mono (fun _ _ ⟨v, h1, h2, h3⟩ => ⟨v, h1, h2, pk_up hk h3⟩))) ?_
     refine .done ⟨by kernel_rfl, fun a50 g W50 y50 zz50 hk hg hV hR hP => ?_⟩
     obtain ⟨e168, -, -, -, -⟩ := hV
     replace e10 := (hR 10 rfl).trans e10
     obtain ⟨bo168_50, bm168_50, cn168_50v, ci168_50v, e168, lr_bo168_50, lr_bm168_50, ne_bo168_50_bm168_50, own_bo168_50, own_bm168_50, D_cn168_50, D_ci168_50, tb168_50⟩ := e168
     obtain ⟨cn168_50a, cn168_50c, ev, D2⟩ := rdS_out D_cn168_50; subst ev; replace D_cn168_50 := D2; clear D2
     obtain ⟨ci168_50a, ci168_50c, ev, D2⟩ := rdVs_out D_ci168_50; subst ev; replace D_ci168_50 := D2; clear D2
     have e168 : sl a50 168 = (.pointer (some ⟨bo168_50, 0, none⟩)) := e168
     have lo_bo168_50 : w.heap.size ≤ bo168_50 := Nat.le_trans kw.size lr_bo168_50
     have lo_bm168_50 : w.heap.size ≤ bm168_50 := Nat.le_trans kw.size lr_bm168_50
     replace D_cn168_50 : Rd W50 (SF w [bo168_50, bm168_50]) (strsD ((objV 1 ([ofBytes (List.replicate (lit 64) (97 : Int))])).ns)) (.slice cn168_50a (((objV 1 ([ofBytes (List.replicate (lit 64) (97 : Int))])).ns).length) cn168_50c) := pk_data kw in_nil D_cn168_50
     replace D_ci168_50 : Rd W50 (SF w [bo168_50, bm168_50]) (valsD ((objV 1 ([ofBytes (List.replicate (lit 64) (97 : Int))])).xs)) (.slice ci168_50a (((objV 1 ([ofBytes (List.replicate (lit 64) (97 : Int))])).xs).length) ci168_50c) := pk_data kw in_nil D_ci168_50
     have own_bo168_50 : Own W50 bo168_50 [(.int .u8 ((objV 1 ([ofBytes (List.replicate (lit 64) (97 : Int))])).k)), (.int .i64 ((objV 1 ([ofBytes (List.replicate (lit 64) (97 : Int))])).n)), (.string ((objV 1 ([ofBytes (List.replicate (lit 64) (97 : Int))])).t)), (.slice cn168_50a (((objV 1 ([ofBytes (List.replicate (lit 64) (97 : Int))])).ns).length) cn168_50c), (.slice ci168_50a (((objV 1 ([ofBytes (List.replicate (lit 64) (97 : Int))])).xs).length) ci168_50c), (.map (some bm168_50)), (.int .i64 (0))] 74 := own_bo168_50
     have own_bm168_50 : OwnM W50 bm168_50 ([]) := own_bm168_50
     replace kw := kw.x hk
     clear hR hk hg hP lr_bo168_50 lr_bm168_50
     refine tail_assign (v := (.pointer (some ⟨bo168_50, 0, none⟩))) e168 (by rw [y50]; exact Nat.le_of_ble_eq_true rfl) (fun a51 y51 zz51 e11 hr => ?_)
     replace y51 := y51.trans y50; replace zz51 := zz51.trans zz50
     replace e10 := (hr 10 (by decide)).trans e10
     replace e168 := (hr 168 (by decide)).trans e168
     clear hr
     refine tail_nil (hK49 _ _ ?_)
     refine wp_seq_k fun K52 hK52 => ?_
     refine wp_reg (fun k => k ∉ [bo168_50]) (Ψ := fun W => Own W bo168_50 [(.int .u8 ((objV 1 ([ofBytes (List.replicate (lit 64) (97 : Int))])).k)), (.int .i64 ((objV 1 ([ofBytes (List.replicate (lit 64) (97 : Int))])).n)), (.string ((objV 1 ([ofBytes (List.replicate (lit 64) (97 : Int))])).t)), (.slice cn168_50a (((objV 1 ([ofBytes (List.replicate (lit 64) (97 : Int))])).ns).length) cn168_50c), (.slice ci168_50a (((objV 1 ([ofBytes (List.replicate (lit 64) (97 : Int))])).xs).length) ci168_50c), (.map (some bm168_50)), (.int .i64 (0))] 74) mixed y51 zz51 stE_own own_bo168_50 ?_
     refine .i (sp_move (hbs rfl e11)) ?_
     refine .callL2 (φ1 := Is (.pointer (some ⟨bo168_50, 0, none⟩))) (φ2 := Is (.int .i64 (12))) (φ := Is (.tuple #[])) (Ψ' := fun W => Own W bo168_50 [(.int .u8 ((objV 1 ([ofBytes (List.replicate (lit 64) (97 : Int))])).k)), (.int .i64 ((objV 1 ([ofBytes (List.replicate (lit 64) (97 : Int))])).n)), (.string ((objV 1 ([ofBytes (List.replicate (lit 64) (97 : Int))])).t)), (.slice cn168_50a (((objV 1 ([ofBytes (List.replicate (lit 64) (97 : Int))])).ns).length) cn168_50c), (.slice ci168_50a (((objV 1 ([ofBytes (List.replicate (lit 64) (97 : Int))])).xs).length) ci168_50c), (.map (some bm168_50)), (.int .i64 (failK ((objV 1 ([ofBytes (List.replicate (lit 64) (97 : Int))])).k) 0 12))] 74) ent22 (hlc rfl) Has.cst (st_is _) stE_own (fun g u1 u2 W hk hg h1 h2 hP => by have h1 : u1 = _ := h1; subst u1; have h2 : u2 = _ := h2; subst u2; exact (Fail_ok _ _ _ _ _ _ _ (12) W _ hP)) ?_
     refine .done ⟨by kernel_rfl, fun a53 g W53 y53 zz53 hk hg hV hR hP => ?_⟩
     obtain ⟨-, -, -⟩ := hV
     replace e10 := (hR 10 rfl).trans e10
     replace e11 := (hR 11 rfl).trans e11
     replace D_cn168_50 := sf_keepL D_cn168_50 hk (by simp)
     replace D_ci168_50 := sf_keepL D_ci168_50 hk (by simp)
     replace own_bm168_50 := ownM_keepL own_bm168_50 hk (by simp [ne_bo168_50_bm168_50.symm])
     have own_bo168_50 := hP
     replace own_bo168_50 : Own W53 bo168_50 [(.int .u8 ((objV 1 ([ofBytes (List.replicate (lit 64) (97 : Int))])).k)), (.int .i64 ((objV 1 ([ofBytes (List.replicate (lit 64) (97 : Int))])).n)), (.string ((objV 1 ([ofBytes (List.replicate (lit 64) (97 : Int))])).t)), (.slice cn168_50a (((objV 1 ([ofBytes (List.replicate (lit 64) (97 : Int))])).ns).length) cn168_50c), (.slice ci168_50a (((objV 1 ([ofBytes (List.replicate (lit 64) (97 : Int))])).xs).length) ci168_50c), (.map (some bm168_50)), (.int .i64 (failK ((objV 1 ([ofBytes (List.replicate (lit 64) (97 : Int))])).k) 0 12))] 74 := own_bo168_50
     replace kw := keeps_L kw hk (in_cons (.inl lo_bo168_50) in_nil)
     clear hR hk hg hP
     refine tail_nil (hK52 _ _ ?_)
     refine wp_seq_k fun K54 hK54 => ?_
     refine rg mixed y53 zz53 ?_
     refine .i (sp_move (hbs rfl e10)) ?_
     refine .i (v := (.agg #[(.int .i64 (0)), (.slice none 0 0)])) (sp_call1 (φ1 := Is (.pointer none)) ent23 (hlc rfl) (fun g u1 W hk hgk h1 => by have h1 : u1 = _ := h1; subst u1; exact PartN_ok W)) ?_
     refine .i (v := (.agg #[(.int .i64 (0)), (.slice none 0 0)])) (sp_build (vs := []) Try.underlying27 z27 (pl27 Try.underlying27) trivial rfl) ?_
     refine .i (v := (.bool (sameA (Au.mk (0) ([])) (Au.mk (0) ([]))))) (sp_call2 (φ1 := IsD (SF w [bo168_50, bm168_50]) (Au.d (Au.mk (0) ([])))) (φ2 := IsD (SF w [bo168_50, bm168_50]) (Au.d (Au.mk (0) ([])))) ent20 ((hlc rfl).dat (rdAu_mk (rd_nil _) : Rd W53 (SF w [bo168_50, bm168_50]) (Au.d (Au.mk (0) ([]))) _) sub_all) ((hlc rfl).dat (rdAu_mk (rd_nil _) : Rd W53 (SF w [bo168_50, bm168_50]) (Au.d (Au.mk (0) ([]))) _) sub_all) (fun g u1 u2 W hk hgk h1 h2 => refSameA_ok (Au.mk (0) ([])) (Au.mk (0) ([])) W _ _ _ h1 h2)) ?_
     refine .i (sp_move (hlc rfl)) ?_
     refine .done ⟨by kernel_rfl, fun a55 g W55 y55 zz55 hk hg hV hR hP => ?_⟩
     obtain ⟨e175, -, -, -, -, -⟩ := hV
     replace e11 := (hR 11 rfl).trans e11
     replace D_cn168_50 := D_cn168_50.ext hk
     replace D_ci168_50 := D_ci168_50.ext hk
     replace e175 := e175.q
     replace own_bo168_50 := own_bo168_50.ext hk
     replace own_bm168_50 := own_bm168_50.ext hk
     replace kw := kw.x hk
     clear hR hk hg hP
     refine tail_ung 4 175 true rfl 4 rfl (e175.trans (congrArg Value.bool (by kernel_rfl))) ?_
     refine tail_reg 6 (fun k => k ∉ [bo168_50, bm168_50]) (Ψ := fun W => Own W bo168_50 [(.int .u8 ((objV 1 ([ofBytes (List.replicate (lit 64) (97 : Int))])).k)), (.int .i64 ((objV 1 ([ofBytes (List.replicate (lit 64) (97 : Int))])).n)), (.string ((objV 1 ([ofBytes (List.replicate (lit 64) (97 : Int))])).t)), (.slice cn168_50a (((objV 1 ([ofBytes (List.replicate (lit 64) (97 : Int))])).ns).length) cn168_50c), (.slice ci168_50a (((objV 1 ([ofBytes (List.replicate (lit 64) (97 : Int))])).xs).length) ci168_50c), (.map (some bm168_50)), (.int .i64 (failK ((objV 1 ([ofBytes (List.replicate (lit 64) (97 : Int))])).k) 0 12))] 74 ∧ OwnM W bm168_50 ([])) y55 zz55 (stE_and stE_own stE_ownM) ⟨own_bo168_50, own_bm168_50⟩ rfl ?_
     refine .i (sp_move (hbs rfl e11)) ?_
     refine .callL1 (φ1 := Is (.pointer (some ⟨bo168_50, 0, none⟩))) (φ := IsD (Fr W55) (Au.d (partA (objV 1 ([ofBytes (List.replicate (lit 64) (97 : Int))])) (failK ((objV 1 ([ofBytes (List.replicate (lit 64) (97 : Int))])).k) 0 12)))) (Ψ' := fun W => Own W bo168_50 [(.int .u8 ((objV 1 ([ofBytes (List.replicate (lit 64) (97 : Int))])).k)), (.int .i64 ((objV 1 ([ofBytes (List.replicate (lit 64) (97 : Int))])).n)), (.string ((objV 1 ([ofBytes (List.replicate (lit 64) (97 : Int))])).t)), (.slice cn168_50a (((objV 1 ([ofBytes (List.replicate (lit 64) (97 : Int))])).ns).length) cn168_50c), (.slice ci168_50a (((objV 1 ([ofBytes (List.replicate (lit 64) (97 : Int))])).xs).length) ci168_50c), (.map (some bm168_50)), (.int .i64 (partE (objV 1 ([ofBytes (List.replicate (lit 64) (97 : Int))])) (failK ((objV 1 ([ofBytes (List.replicate (lit 64) (97 : Int))])).k) 0 12)))] 74 ∧ OwnM W bm168_50 (partM (objV 1 ([ofBytes (List.replicate (lit 64) (97 : Int))])) ([]) (failK ((objV 1 ([ofBytes (List.replicate (lit 64) (97 : Int))])).k) 0 12))) ent23 (hlc rfl) (st_d (sub_frnl (in_cons own_bo168_50.lt (in_cons own_bm168_50.lt in_nil)))) (stE_and stE_own stE_ownM) (fun g u1 W hk hg h1 hP => by have h1 : u1 = _ := h1; subst u1; exact (Part_ok ((objV 1 ([ofBytes (List.replicate (lit 64) (97 : Int))]))) ([]) (failK ((objV 1 ([ofBytes (List.replicate (lit 64) (97 : Int))])).k) 0 12) (AB.nil.mono (by omega)) (Nat.le_of_ble_eq_true (by kernel_rfl)) tb168_50 W _ _ _ _ _ (fun b o h => h.2.1) (sf_notin (by simp)) ne_bo168_50_bm168_50 (sf_keepL D_cn168_50 hk (by simp)) (sf_keepL D_ci168_50 hk (by simp)) hP.1 hP.2).mono (fun _ _ ⟨v, h1, h2, h3, h4⟩ => ⟨v, h1, h2, fresh_d hk hg h3, h4⟩)) ?_
     refine .i (v := (.agg #[(.int .i64 (0)), (.slice none 0 0)])) (sp_build (vs := []) Try.underlying27 z27 (pl27 Try.underlying27) trivial rfl) ?_
     refine .i (v := (.bool (sameA (partA (objV 1 ([ofBytes (List.replicate (lit 64) (97 : Int))])) (failK ((objV 1 ([ofBytes (List.replicate (lit 64) (97 : Int))])).k) 0 12)) (Au.mk (0) ([]))))) (sp_call2 (φ1 := IsD (SF w [bo168_50, bm168_50]) (Au.d (partA (objV 1 ([ofBytes (List.replicate (lit 64) (97 : Int))])) (failK ((objV 1 ([ofBytes (List.replicate (lit 64) (97 : Int))])).k) 0 12)))) (φ2 := IsD (SF w [bo168_50, bm168_50]) (Au.d (Au.mk (0) ([])))) ent20 ((hlc rfl).sup (fr_sf kw (in_cons own_bo168_50.lt (in_cons own_bm168_50.lt in_nil)))) ((hlc rfl).dat (rdAu_mk (rd_nil _) : Rd W55 (SF w [bo168_50, bm168_50]) (Au.d (Au.mk (0) ([]))) _) (sub_nlF (by simp))) (fun g u1 u2 W hk hgk h1 h2 => refSameA_ok (partA (objV 1 ([ofBytes (List.replicate (lit 64) (97 : Int))])) (failK ((objV 1 ([ofBytes (List.replicate (lit 64) (97 : Int))])).k) 0 12)) (Au.mk (0) ([])) W _ _ _ h1 h2)) ?_
     refine .i (sp_and (hbs rfl e175) ((hlc rfl).toU)) ?_
     refine .i (sp_move (hlc rfl)) ?_
     refine .done ⟨by kernel_rfl, fun a56 g W56 y56 zz56 hk hg hV hR hP => ?_⟩
     refine tail_nil ?_
     show runTail _ _ _ _ _ _
     obtain ⟨e181, -, -, -, -, -, -⟩ := hV
     replace e11 := (hR 11 rfl).trans e11
     replace e181 := e181.q
     replace D_cn168_50 := sf_keepL D_cn168_50 hk (by simp)
     replace D_ci168_50 := sf_keepL D_ci168_50 hk (by simp)
     obtain ⟨own_bo168_50, own_bm168_50⟩ := hP
     replace own_bo168_50 : Own W56 bo168_50 [(.int .u8 ((objV 1 ([ofBytes (List.replicate (lit 64) (97 : Int))])).k)), (.int .i64 ((objV 1 ([ofBytes (List.replicate (lit 64) (97 : Int))])).n)), (.string ((objV 1 ([ofBytes (List.replicate (lit 64) (97 : Int))])).t)), (.slice cn168_50a (((objV 1 ([ofBytes (List.replicate (lit 64) (97 : Int))])).ns).length) cn168_50c), (.slice ci168_50a (((objV 1 ([ofBytes (List.replicate (lit 64) (97 : Int))])).xs).length) ci168_50c), (.map (some bm168_50)), (.int .i64 (partE (objV 1 ([ofBytes (List.replicate (lit 64) (97 : Int))])) (failK ((objV 1 ([ofBytes (List.replicate (lit 64) (97 : Int))])).k) 0 12)))] 74 := own_bo168_50
     replace own_bm168_50 : OwnM W56 bm168_50 (partM (objV 1 ([ofBytes (List.replicate (lit 64) (97 : Int))])) ([]) (failK ((objV 1 ([ofBytes (List.replicate (lit 64) (97 : Int))])).k) 0 12)) := own_bm168_50
     replace kw := keeps_L kw hk (in_cons (.inl lo_bo168_50) (in_cons (.inl lo_bm168_50) in_nil))
     clear hR hk hg
     refine tail_ung 10 181 true rfl 3 rfl (e181.trans (congrArg Value.bool (by kernel_rfl))) ?_
     refine tail_reg 5 All y56 zz56 st_tr trivial rfl ?_
     refine .i (sp_move (hbs rfl e11)) ?_
     refine .i (v := (.int .i64 (errK ((objV 1 ([ofBytes (List.replicate (lit 64) (97 : Int))])).k) (partE (objV 1 ([ofBytes (List.replicate (lit 64) (97 : Int))])) (failK ((objV 1 ([ofBytes (List.replicate (lit 64) (97 : Int))])).k) 0 12))))) (sp_call1 (φ1 := Is (.pointer (some ⟨bo168_50, 0, none⟩))) ent24 (hlc rfl) (fun g u1 W hk hgk h1 => by have h1 : u1 = _ := h1; subst u1; exact Err_ok _ _ _ _ _ _ _ W _ (own_bo168_50.ext hk))) ?_
     refine .i (sp_eql (hlc rfl) Has.cst) ?_
     refine .i (sp_and (hbs rfl e181) ((hlc rfl).toU)) ?_
     refine .i (sp_move (hlc rfl)) ?_
     refine .done ⟨by kernel_rfl, fun a57 g W57 y57 zz57 hk hg hV hR hP => ?_⟩
     refine tail_nil ?_
     show runTail _ _ _ _ _ _
     obtain ⟨e186, -, -, -, -, -⟩ := hV
     replace D_cn168_50 := D_cn168_50.ext hk
     replace D_ci168_50 := D_ci168_50.ext hk
     replace e186 := e186.q
     replace own_bo168_50 := own_bo168_50.ext hk
     replace own_bm168_50 := own_bm168_50.ext hk
     replace kw := kw.x hk
     clear hR hk hg hP
     refine tail_ung 15 186 true rfl 3 rfl (e186.trans (congrArg Value.bool (by kernel_rfl))) ?_
     refine tail_reg 5 All y57 zz57 st_tr trivial rfl ?_
     refine .i (v := (.agg #[(.int .i64 (0)), (.slice none 0 0)])) (sp_build (vs := []) Try.underlying27 z27 (pl27 Try.underlying27) trivial rfl) ?_
     refine .i (v := (.bool (hasA (Au.mk (0) ([])) ⟨#[]⟩))) (sp_call2 (φ1 := IsD (SF w [bo168_50, bm168_50]) (Au.d (Au.mk (0) ([])))) (φ2 := Is (.string (⟨#[]⟩))) ent25 ((hlc rfl).dat (rdAu_mk (rd_nil _) : Rd W57 (SF w [bo168_50, bm168_50]) (Au.d (Au.mk (0) ([]))) _) sub_all) Has.cst (fun g u1 u2 W hk hgk h1 h2 => by have h2 : u2 = _ := h2; subst u2; exact hasA_ok (Au.mk (0) ([])) (⟨#[]⟩) W _ _ h1)) ?_
     refine .i (sp_not (hlc rfl)) ?_
     refine .i (sp_and (hbs rfl e186) ((hlc rfl).toU)) ?_
     refine .i (sp_move (hlc rfl)) ?_
     refine .done ⟨by kernel_rfl, fun a58 g W58 y58 zz58 hk hg hV hR hP => ?_⟩
     refine tail_nil ?_
     show runTail _ _ _ _ _ _
     obtain ⟨e191, -, -, -, -, -⟩ := hV
     replace e191 := e191.q
     replace own_bo168_50 := own_bo168_50.ext hk
     replace own_bm168_50 := own_bm168_50.ext hk
     replace kw := kw.x hk
     clear hR hk hg hP
     refine tail_ung 20 191 true rfl 3 rfl (e191.trans (congrArg Value.bool (by kernel_rfl))) ?_
     refine tail_reg 5 All y58 zz58 st_tr trivial rfl ?_
     refine .i (v := (.agg #[(.int .i64 (0)), (.slice none 0 0)])) (sp_build (vs := []) Try.underlying27 z27 (pl27 Try.underlying27) trivial rfl) ?_
     refine .i (v := (.bool (mayA (Au.mk (0) ([]))))) (sp_call1 (φ1 := IsD (SF w [bo168_50, bm168_50]) (Au.d (Au.mk (0) ([])))) ent18 ((hlc rfl).dat (rdAu_mk (rd_nil _) : Rd W58 (SF w [bo168_50, bm168_50]) (Au.d (Au.mk (0) ([]))) _) sub_all) (fun g u1 W hk hgk h1 => mayA_ok (Au.mk (0) ([])) W _ _ h1)) ?_
     refine .i (sp_not (hlc rfl)) ?_
     refine .i (sp_and (hbs rfl e191) ((hlc rfl).toU)) ?_
     refine .i (sp_assign (hlc rfl)) ?_
     refine .done ⟨by kernel_rfl, fun a59 g W59 y59 zz59 hk hg hV hR hP => ?_⟩
     refine tail_nil ?_
     show runTail _ _ _ _ _ _
     obtain ⟨e0, -, -, -, -, -⟩ := hV
     replace e0 := e0.q
     replace own_bo168_50 := own_bo168_50.ext hk
     replace own_bm168_50 := own_bm168_50.ext hk
     replace kw := kw.x hk
     clear hR hk hg hP
     refine tail_nil (hK54 _ _ ?_)
     refine wp_ret ?_
     refine (show bodyPost Try.prog Try.f3 _ .ret _ _ from ret1 rfl zz59 e0 ⟨_, rfl, kw, ?_⟩)
     exact congrArg Value.bool (by kernel_rfl)

end Go.Proofs.Ytnobijngkpflcaa
