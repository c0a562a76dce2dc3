import Derived.Test.YtipdogbeoflkoaaR1
namespace Go.Proofs.Ytipdogbeoflkoaa
open Go.Eng
set_option maxRecDepth 100000 in
theorem AuthLess_ok (au : Au) (n : Int) (w : World) (S : BSet) (v : Value) (hv : Rd w S au.d v) : Calls Try.prog 5 #[v, .int .i64 n] w (Ret w fun u _ => u = .bool true) := by
  obtain ⟨p0_1a, p0_1c, ev, D_p0_1⟩ := rdAu_out (rd_arg hv)
  subst ev
  refine enter Try.func5 rfl Try.ntmps5 (Nat.le_of_ble_eq_true rfl) fun a0 hsz0 hdf0 harg => ?_
  have e0 : sl a0 0 = (.agg #[(.int .i64 (au.th)), (.slice p0_1a (au.ids.length) p0_1c)]) := harg 0 (Nat.le_of_ble_eq_true rfl)
  have e1 : sl a0 1 = (.int .i64 (n)) := harg 1 (Nat.le_of_ble_eq_true rfl)
  have kw := Keeps.refl All w
  clear harg
  refine wp_seq_k fun K1 hK1 => ?_
  refine wp_reg All mixed hsz0 hdf0 st_tr trivial ?_
  refine Chain.boxOp (v := (.agg #[(.int .i64 (au.th)), (.slice p0_1a (au.ids.length) p0_1c)])) (Has.base rfl e0) ?_
  refine Chain.op (φ := Is (.bool (false))) (st_is _) (sp_assign Has.cst) ?_
  refine Chain.done ⟨by kernel_rfl, fun a2 g W2 hsz2 hdf2 hk hg henv hrest hpsi => ?_⟩
  obtain ⟨-, ⟨b2_2, e2, hb2, own_b2_2⟩, -⟩ := henv
  have lo_b2_2 : w.heap.size ≤ b2_2 := Nat.le_trans kw.size (hg.lo _ _ hb2)
  have own_b2_2 : Own W2 b2_2 [(.int .i64 (au.th)), (.slice p0_1a (au.ids.length) p0_1c)] 27 := own_b2_2
  replace e1 := (hrest 1 rfl).trans e1
  replace D_p0_1 := sa_more D_p0_1 hk [b2_2] (in_cons (hg.lo _ _ hb2) in_nil)
  replace kw := kw.trans (.of_ext hk)
  clear hrest hk hg hpsi hb2
  refine tail_nil (hK1 _ _ ?_)
  refine wp_seq_k fun K3 hK3 => ?_
  refine wp_seq_k fun K4 hK4 => ?_
  refine wp_reg All mixed hsz2 hdf2 st_tr trivial ?_
  refine Chain.op (φ := Is (.agg #[(.int .i64 (au.th)), (.slice p0_1a (au.ids.length) p0_1c)])) (st_is _) (sp_loadO (v := (.agg #[(.int .i64 (au.th)), (.slice p0_1a (au.ids.length) p0_1c)])) (Has.base rfl e2) own_b2_2 trivial agg27 sz27 (Nat.le_of_ble_eq_true rfl) (fun h => by first | rfl | cases h) rfl) ?_
  refine Chain.op (φ := IsD (SA w S [b2_2]) (ausD ([au]))) (st_d sub_all) (sp_bsl (ds := [Au.d (au)]) Try.underlying74 sz27 z27 (Nat.le_of_ble_eq_true rfl) (Nat.le_of_ble_eq_true rfl) ⟨rfl, ((Has.loc rfl).dat (rdAu_mk D_p0_1 : Rd W2 (SA w S [b2_2]) (Au.d (au)) _) sub_all), trivial⟩ rfl (by intro e he; simp at he; rcases he with rfl <;> exact width_Au _) (fr_sa kw (in_cons own_b2_2.lt in_nil))) ?_
  refine Chain.op (φ := Is (.bool (decide (5000 ≤ szA ([au]) 0)))) (st_is _) (sp_call1 (φ1 := IsD (SA w S [b2_2]) (ausD ([au]))) ent21 (Has.loc rfl) (fun g u1 W hk hgk h1 => longA_ok ([au]) W _ _ h1)) ?_
  refine Chain.op (φ := Is (.bool (decide (5000 ≤ szA ([au]) 0)))) (st_is _) (sp_move (Has.loc rfl)) ?_
  refine Chain.opE (t := 12) (x := decide (5000 ≤ szA ([au]) 0)) (φ := Is (.agg #[(.int .i64 (au.th)), (.slice p0_1a (au.ids.length) p0_1c)])) rfl (Has.loc rfl) (st_is _) (fun hg => sp_loadO (v := (.agg #[(.int .i64 (au.th)), (.slice p0_1a (au.ids.length) p0_1c)])) (Has.base rfl e2) own_b2_2 trivial agg27 sz27 (Nat.le_of_ble_eq_true rfl) (fun h => by first | rfl | cases h) rfl) ?_
  refine Chain.opE (t := 12) (x := decide (5000 ≤ szA ([au]) 0)) (φ := Is (.bool (mayA au))) rfl (Has.loc rfl) (st_is _) (fun hg => sp_call1 (φ1 := IsD (SA w S [b2_2]) (Au.d (au))) ent13 (((Has.loc rfl).undE hg).dat (rdAu_mk D_p0_1 : Rd W2 (SA w S [b2_2]) (Au.d (au)) _) sub_all) (fun g u1 W hk hgk h1 => mayA_ok (au) W _ _ h1)) ?_
  refine Chain.opE (t := 12) (x := decide (5000 ≤ szA ([au]) 0)) (φ := Is (.bool (!(mayA au)))) rfl (Has.loc rfl) (st_is _) (fun hg => sp_not ((Has.loc rfl).undE hg)) ?_
  refine Chain.op (φ := Is (.bool ((decide (5000 ≤ szA ([au]) 0)) || (!(mayA au))))) (st_is _) (sp_or (Has.loc rfl) ((Has.loc rfl).weak fun hq => hq)) ?_
  refine Chain.op (φ := Is (.bool ((decide (5000 ≤ szA ([au]) 0)) || (!(mayA au))))) (st_is _) (sp_move (Has.loc rfl)) ?_
  refine Chain.opE (t := 17) (x := (decide (5000 ≤ szA ([au]) 0)) || (!(mayA au))) (φ := Is (.pointer (some ⟨b2_2, 1, none⟩))) rfl (Has.loc rfl) (st_is _) (fun hg => sp_fieldO (Has.base rfl e2) Try.underlying27 rfl sz23 rfl) ?_
  refine Chain.opE (t := 17) (x := (decide (5000 ≤ szA ([au]) 0)) || (!(mayA au))) (φ := Is (.slice p0_1a (au.ids.length) p0_1c)) rfl (Has.loc rfl) (st_is _) (fun hg => sp_loadO (v := (.slice p0_1a (au.ids.length) p0_1c)) ((Has.loc rfl).undE hg) own_b2_2 trivial agg23 sz23 (Nat.le_of_ble_eq_true rfl) (fun h => by first | rfl | cases h) rfl) ?_
  refine Chain.opE (t := 17) (x := (decide (5000 ≤ szA ([au]) 0)) || (!(mayA au))) (φ := Is (.int .i64 (au.ids.length))) rfl (Has.loc rfl) (st_is _) (fun hg => sp_lenSs Try.underlying23 (((Has.loc rfl).undE hg).dat D_p0_1 sub_all)) ?_
  refine Chain.opE (t := 17) (x := (decide (5000 ≤ szA ([au]) 0)) || (!(mayA au))) (φ := Is (.bool ((au.ids.length : Int) == (0 : Int)))) rfl (Has.loc rfl) (st_is _) (fun hg => sp_eql ((Has.loc rfl).undE hg) Has.cst) ?_
  refine Chain.op (φ := Is (.bool (((decide (5000 ≤ szA ([au]) 0)) || (!(mayA au))) || ((au.ids.length : Int) == (0 : Int))))) (st_is _) (sp_or (Has.loc rfl) ((Has.loc rfl).weak fun hq => hq)) ?_
  refine Chain.op (φ := Is (.bool (((decide (5000 ≤ szA ([au]) 0)) || (!(mayA au))) || ((au.ids.length : Int) == (0 : Int))))) (st_is _) (sp_move (Has.loc rfl)) ?_
  refine Chain.opE (t := 23) (x := ((decide (5000 ≤ szA ([au]) 0)) || (!(mayA au))) || ((au.ids.length : Int) == (0 : Int))) (φ := Is (.bool (true))) rfl (Has.loc rfl) (st_is _) (fun hg => sp_call0  ent9  (fun g  W hk hgk  => awakeA_ok W)) ?_
  refine Chain.opE (t := 23) (x := ((decide (5000 ≤ szA ([au]) 0)) || (!(mayA au))) || ((au.ids.length : Int) == (0 : Int))) (φ := Is (.bool (!true))) rfl (Has.loc rfl) (st_is _) (fun hg => sp_not ((Has.loc rfl).undE hg)) ?_
  refine Chain.op (φ := Is (.bool ((((decide (5000 ≤ szA ([au]) 0)) || (!(mayA au))) || ((au.ids.length : Int) == (0 : Int))) || (!true)))) (st_is _) (sp_or (Has.loc rfl) ((Has.loc rfl).weak fun hq => hq)) ?_
  refine Chain.done ⟨by kernel_rfl, fun a5 g W5 hsz5 hdf5 hk hg henv hrest hpsi => ?_⟩
  obtain ⟨e26, -, -, -, -, -, -, -, -, -, -, -, -, -, -, -, -, -, -⟩ := henv
  replace e1 := (hrest 1 rfl).trans e1
  replace e2 := (hrest 2 rfl).trans e2
  replace D_p0_1 := D_p0_1.ext hk
  have e26 : sl a5 26 = (.bool ((((decide (5000 ≤ szA ([au]) 0)) || (!(mayA au))) || ((au.ids.length : Int) == (0 : Int))) || (!true))) := e26
  replace own_b2_2 := own_b2_2.ext hk
  replace kw := kw.trans (.of_ext hk)
  clear hrest hk hg hpsi
  refine tail_nil (hK4 _ _ ?_)
  refine wp_cond_split e26 (fun hc => ?_) (fun hc => ?_)
  · -- T: (((decide (5000 ≤ szA ([au]) 0)) || (!(mayA au))) || ((au.ids.length : Int) == (
    refine wp_seq_k fun K6 hK6 => ?_
    refine wp_reg All mixed hsz5 hdf5 st_tr trivial ?_
    refine Chain.op (φ := Is (.bool (true))) (st_is _) (sp_call0  ent9  (fun g  W hk hgk  => awakeA_ok W)) ?_
    refine Chain.op (φ := Is (.bool (true))) (st_is _) (sp_assign (Has.loc rfl)) ?_
    refine Chain.done ⟨by kernel_rfl, fun a7 g W7 hsz7 hdf7 hk hg henv hrest hpsi => ?_⟩
    obtain ⟨e4, -, -⟩ := henv
    replace D_p0_1 := D_p0_1.ext hk
    have e4 : sl a7 4 = (.bool (true)) := e4
    replace own_b2_2 := own_b2_2.ext hk
    replace kw := kw.trans (.of_ext hk)
    clear hrest hk hg hpsi
    refine tail_nil (hK6 _ _ ?_)
    refine wp_ret ?_
    refine (show bodyPost Try.prog Try.f5 _ .ret _ _ from ret1 rfl hdf7 e4 ⟨_, rfl, kw, ?_⟩)
    exact rfl
  · -- E: (((decide (5000 ≤ szA ([au]) 0)) || (!(mayA au))) || ((au.ids.length : Int) == (
    simp only [Bool.or_eq_false_iff, decide_eq_false_iff_not, Bool.not_eq_false'] at hc
    obtain ⟨⟨⟨hlong, hmay⟩, hnz⟩, -⟩ := hc
    rw [szA_one] at hlong
    have hli := szI_len au.ids 0 (Nat.lt_of_not_le hlong)
    have hli2 := Nat.lt_of_not_le hlong
    have hpos : 0 < au.ids.length := by simp at hnz; exact List.length_pos_iff.2 hnz
    obtain ⟨ub, hub⟩ : ∃ u, IntKind.u64.wrap n = u := ⟨_, rfl⟩
    have hub2 : 0 ≤ ub := by rw [← hub]; exact u64_nonneg n
    obtain ⟨r, hr, hrn⟩ := tmod_nat hub2 hpos
    have hml := mayA_less hmay hrn
    have hhl := hasA_less hmay hrn
    have hho : hasA au au.ids[r] = true := hasA_own hrn
    refine wp_skip (hK3 _ _ ?_)
    refine wp_seq_k fun K8 hK8 => ?_
    refine wp_reg All mixed hsz5 hdf5 st_tr trivial ?_
    refine Chain.op (φ := Is (.int .i64 (n))) (st_is _) (sp_move (Has.base rfl e1)) ?_
    refine Chain.op (φ := Is (.int .u64 (ub))) (st_is _) (sp_conv Try.underlying3 Try.underlying47 (Has.loc rfl) hub) ?_
    refine Chain.op (φ := Is (.pointer (some ⟨b2_2, 1, none⟩))) (st_is _) (sp_fieldO (Has.base rfl e2) Try.underlying27 rfl sz23 rfl) ?_
    refine Chain.op (φ := Is (.slice p0_1a (au.ids.length) p0_1c)) (st_is _) (sp_loadO (v := (.slice p0_1a (au.ids.length) p0_1c)) (Has.loc rfl) own_b2_2 trivial agg23 sz23 (Nat.le_of_ble_eq_true rfl) (fun h => by first | rfl | cases h) rfl) ?_
    refine Chain.op (φ := Is (.int .i64 (au.ids.length))) (st_is _) (sp_lenSs Try.underlying23 ((Has.loc rfl).dat D_p0_1 sub_all)) ?_
    refine Chain.op (φ := Is (.int .u64 (au.ids.length))) (st_is _) (sp_conv Try.underlying3 Try.underlying47 (Has.loc rfl) (u64_in (by omega))) ?_
    refine Chain.op (φ := Is (.int .u64 (Int.tmod ub au.ids.length))) (st_is _) (sp_rem (Has.loc rfl) (Has.loc rfl) (by omega)) ?_
    refine Chain.op (φ := Is (.int .i64 ((r : Nat)))) (st_is _) (sp_conv Try.underlying47 Try.underlying3 (Has.loc rfl) (by rw [hr]; exact i64_in (by omega))) ?_
    refine Chain.op (φ := Is (.int .i64 ((r : Nat)))) (st_is _) (sp_assign (Has.loc rfl)) ?_
    refine Chain.done ⟨by kernel_rfl, fun a9 g W9 hsz9 hdf9 hk hg henv hrest hpsi => ?_⟩
    obtain ⟨e5, -, -, -, -, -, -, -, -, -⟩ := henv
    replace e2 := (hrest 2 rfl).trans e2
    replace D_p0_1 := D_p0_1.ext hk
    have e5 : sl a9 5 = (.int .i64 ((r : Nat))) := e5
    replace own_b2_2 := own_b2_2.ext hk
    replace kw := kw.trans (.of_ext hk)
    clear hrest hk hg hpsi
    refine tail_nil (hK8 _ _ ?_)
    refine wp_seq_k fun K10 hK10 => ?_
    refine wp_reg All mixed hsz9 hdf9 st_tr trivial ?_
    refine Chain.op (φ := Is (.pointer (some ⟨b2_2, 0, none⟩))) (st_is _) (sp_fieldO (Has.base rfl e2) Try.underlying27 rfl sz3 rfl) ?_
    refine Chain.op (φ := Is (.int .i64 (au.th))) (st_is _) (sp_loadO (v := (.int .i64 (au.th))) (Has.loc rfl) own_b2_2 trivial agg3 sz3 (Nat.le_of_ble_eq_true rfl) (fun h => by first | rfl | cases h) rfl) ?_
    refine Chain.op (φ := Is (.agg #[(.int .i64 (au.th)), (.slice none 0 0)])) (st_is _) (sp_build (vs := [(0, (.int .i64 (au.th)))]) Try.underlying27 z27 (pl27 Try.underlying27) ⟨rfl, (Has.loc rfl), trivial⟩ rfl) ?_
    refine Chain.alloc z27 ?_
    refine Chain.done ⟨by kernel_rfl, fun a11 g W11 hsz11 hdf11 hk hg henv hrest hpsi => ?_⟩
    obtain ⟨⟨b6_11, e6, hb6, own_b6_11⟩, e38, -, -, -⟩ := henv
    have lo_b6_11 : w.heap.size ≤ b6_11 := Nat.le_trans kw.size (hg.lo _ _ hb6)
    have ne_b2_2_b6_11 : b2_2 ≠ b6_11 := Nat.ne_of_lt (Nat.lt_of_lt_of_le own_b2_2.lt (hg.lo _ _ hb6))
    have own_b6_11 : Own W11 b6_11 [(.int .i64 (0)), (.slice none 0 0)] 27 := own_b6_11
    replace e2 := (hrest 2 rfl).trans e2
    replace e5 := (hrest 5 rfl).trans e5
    replace D_p0_1 := sa_more D_p0_1 hk [b6_11] (in_cons (hg.lo _ _ hb6) in_nil)
    have e38 : sl a11 38 = (.agg #[(.int .i64 (au.th)), (.slice none 0 0)]) := e38
    replace own_b2_2 := own_b2_2.ext hk
    replace kw := kw.trans (.of_ext hk)
    clear hrest hk hg hpsi hb6
    refine tail_store (b := b6_11) (o := 0) (v := (.agg #[(.int .i64 (au.th)), (.slice none 0 0)])) e6 e38 sz27 rfl own_b6_11 (Nat.le_of_ble_eq_true rfl) (all_cons rfl (all_cons rfl all_nil)) (fun W12 hs own_b6_11 => ?_)
    have own_b6_11 : Own W12 b6_11 [(.int .i64 (au.th)), (.slice none 0 0)] 27 := own_b6_11
    replace own_b2_2 := own_store own_b2_2 hs ne_b2_2_b6_11
    replace D_p0_1 := sa_store D_p0_1 hs (by simp)
    replace kw := keeps_store kw hs lo_b6_11
    clear hs
    refine tail_nil (hK10 _ _ ?_)
    refine wp_seq_k fun K13 hK13 => ?_
    refine wp_seq_k fun K14 hK14 => ?_
    refine wp_reg All mixed hsz11 hdf11 st_tr trivial ?_
    refine Chain.op (φ := Is (.int .i64 (0))) (st_is _) (sp_assign Has.cst) ?_
    refine Chain.done ⟨by kernel_rfl, fun a15 g W15 hsz15 hdf15 hk hg henv hrest hpsi => ?_⟩
    obtain ⟨e7, -⟩ := henv
    replace e2 := (hrest 2 rfl).trans e2
    replace e5 := (hrest 5 rfl).trans e5
    replace e6 := (hrest 6 rfl).trans e6
    replace D_p0_1 := D_p0_1.ext hk
    have e7 : sl a15 7 = (.int .i64 (0)) := e7
    replace own_b2_2 := own_b2_2.ext hk
    replace own_b6_11 := own_b6_11.ext hk
    replace kw := kw.trans (.of_ext hk)
    clear hrest hk hg hpsi
    refine tail_nil (hK14 _ _ ?_)
    refine wp_block ?_
    have A_ar16 : Arr W15 w.heap.size 9 1 (SF w (blks none ++ (b6_11 :: (b2_2 :: [])))) (List.map D.str ([])) (.slice none 0 0) none := arr_nil _ _ _ _ _
    replace D_p0_1 : Rd W15 (SA w S (blks none ++ (b6_11 :: (b2_2 :: [])))) (strsD (au.ids)) (.slice p0_1a (au.ids.length) p0_1c) := D_p0_1
    refine wp_for (au.ids.length) (fun k a W => ∃ (va1_17 : Value), ∃ (hd1_17 : Option Nat), a.tmps.size = 102 ∧ a.defers = [] ∧ Keeps All w W ∧ sl a 2 = (.pointer (some ⟨b2_2, 0, none⟩)) ∧ sl a 5 = (.int .i64 ((r : Nat))) ∧ sl a 6 = (.pointer (some ⟨b6_11, 0, none⟩)) ∧ sl a 7 = (.int .i64 ((k : Nat))) ∧ Own W b2_2 [(.int .i64 (au.th)), (.slice p0_1a (au.ids.length) p0_1c)] 27 ∧ Own W b6_11 [(.int .i64 (au.th)), va1_17] 27 ∧ Rd W (SA w S (blks hd1_17 ++ (b6_11 :: (b2_2 :: [])))) (strsD (au.ids)) (.slice p0_1a (au.ids.length) p0_1c) ∧ Arr W w.heap.size 9 1 (SF w (blks hd1_17 ++ (b6_11 :: (b2_2 :: [])))) (List.map D.str ((au.ids.take k).eraseIdx r)) va1_17 hd1_17 ∧ b2_2 ∉ blks hd1_17 ∧ b6_11 ∉ blks hd1_17) ⟨(.slice none 0 0), none, hsz15, hdf15, kw, e2, e5, e6, (e7.trans (congrArg (Value.int .i64) (rfl))), own_b2_2, own_b6_11, D_p0_1, A_ar16, nb_none, nb_none⟩ ?_
    clear kw e2 e5 e6 e7 own_b2_2 own_b6_11 D_p0_1 A_ar16
    rintro k a17 W17 hkk ⟨va1_17, hd1_17, hsz17, hdf17, kw, e2, e5, e6, e7, own_b2_2, own_b6_11, D_p0_1, A1_17, nb_b2_2_ar16_17, nb_b6_11_ar16_17⟩
    refine wp_seq_k fun K18 hK18 => ?_
    refine wp_seq_k fun K19 hK19 => ?_
    refine wp_reg All mixed hsz17 hdf17 st_tr trivial ?_
    refine Chain.op (φ := Is (.int .i64 ((k : Nat)))) (st_is _) (sp_move (Has.base rfl e7)) ?_
    refine Chain.op (φ := Is (.pointer (some ⟨b2_2, 1, none⟩))) (st_is _) (sp_fieldO (Has.base rfl e2) Try.underlying27 rfl sz23 rfl) ?_
    refine Chain.op (φ := Is (.slice p0_1a (au.ids.length) p0_1c)) (st_is _) (sp_loadO (v := (.slice p0_1a (au.ids.length) p0_1c)) (Has.loc rfl) own_b2_2 trivial agg23 sz23 (Nat.le_of_ble_eq_true rfl) (fun h => by first | rfl | cases h) rfl) ?_
    refine Chain.op (φ := Is (.int .i64 (au.ids.length))) (st_is _) (sp_lenSs Try.underlying23 ((Has.loc rfl).dat D_p0_1 sub_all)) ?_
    refine Chain.op (φ := Is (.bool (decide (((k : Nat) : Int) < (au.ids.length : Int))))) (st_is _) (sp_lss (Has.loc rfl) (Has.loc rfl)) ?_
    refine Chain.done ⟨by kernel_rfl, fun a20 g W20 hsz20 hdf20 hk hg henv hrest hpsi => ?_⟩
    obtain ⟨e43, -, -, -, -, -⟩ := henv
    replace e2 := (hrest 2 rfl).trans e2
    replace e5 := (hrest 5 rfl).trans e5
    replace e6 := (hrest 6 rfl).trans e6
    replace e7 := (hrest 7 rfl).trans e7
    replace A1_17 := A1_17.ext hk
    replace D_p0_1 := D_p0_1.ext hk
    have e43 : sl a20 43 = (.bool (decide (((k : Nat) : Int) < (au.ids.length : Int)))) := e43
    replace own_b2_2 := own_b2_2.ext hk
    replace own_b6_11 := own_b6_11.ext hk
    replace kw := kw.trans (.of_ext hk)
    clear hrest hk hg hpsi
    refine tail_nil (hK19 _ _ ?_)
    refine wp_cond_split e43 (fun hc => ?_) (fun hc => ?_)
    · -- T: decide (((k : Nat) : Int) < (au.ids.length : Int))
      have hlt : k < au.ids.length := by simpa using hc
      have hel : ((au.ids.take k).eraseIdx r).length ≤ k := Nat.le_trans (List.length_eraseIdx_le _ _) (by simp; omega)
      refine wp_skip (hK18 _ _ ?_)
      refine wp_seq_k fun K21 hK21 => ?_
      refine wp_block ?_
      refine wp_seq_k fun K22 hK22 => ?_
      refine wp_reg All mixed hsz20 hdf20 st_tr trivial ?_
      refine Chain.op (φ := Is (.int .i64 ((k : Nat)))) (st_is _) (sp_move (Has.base rfl e7)) ?_
      refine Chain.op (φ := Is (.int .i64 ((r : Nat)))) (st_is _) (sp_move (Has.base rfl e5)) ?_
      refine Chain.op (φ := Is (.bool (((k : Nat) : Int) != ((r : Nat) : Int)))) (st_is _) (sp_neq (Has.loc rfl) (Has.loc rfl)) ?_
      refine Chain.done ⟨by kernel_rfl, fun a23 g W23 hsz23 hdf23 hk hg henv hrest hpsi => ?_⟩
      obtain ⟨e48, -, -, -⟩ := henv
      replace e2 := (hrest 2 rfl).trans e2
      replace e5 := (hrest 5 rfl).trans e5
      replace e6 := (hrest 6 rfl).trans e6
      replace e7 := (hrest 7 rfl).trans e7
      replace A1_17 := A1_17.ext hk
      replace D_p0_1 := D_p0_1.ext hk
      have e48 : sl a23 48 = (.bool (((k : Nat) : Int) != ((r : Nat) : Int))) := e48
      replace own_b2_2 := own_b2_2.ext hk
      replace own_b6_11 := own_b6_11.ext hk
      replace kw := kw.trans (.of_ext hk)
      clear hrest hk hg hpsi
      refine tail_nil (hK22 _ _ ?_)
      refine wp_cond_split e48 (fun hc => ?_) (fun hc => ?_)
      · -- T: ((k : Nat) : Int) != ((r : Nat) : Int)
        have hne : k ≠ r := by simp at hc; omega
        refine wp_reg (fun k => k ∉ blks hd1_17) (Ψ := fun W => Arr W w.heap.size 9 1 (SF w (blks hd1_17 ++ (b6_11 :: (b2_2 :: [])))) (List.map D.str ((au.ids.take k).eraseIdx r)) va1_17 hd1_17) mixed hsz23 hdf23 (fun W W' k h => h.ext k) A1_17 ?_
        refine Chain.op (φ := Is (.pointer (some ⟨b6_11, 1, none⟩))) (st_is _) (sp_fieldO (Has.base rfl e6) Try.underlying27 rfl sz23 rfl) ?_
        refine Chain.op (φ := Is va1_17) (st_is _) (sp_loadO (v := va1_17) (Has.loc rfl) own_b6_11 nb_b6_11_ar16_17 agg23 sz23 (Nat.le_of_ble_eq_true rfl) (fun h => by first | rfl | cases h) rfl) ?_
        refine Chain.op (φ := Is (.pointer (some ⟨b2_2, 1, none⟩))) (st_is _) (sp_fieldO (Has.base rfl e2) Try.underlying27 rfl sz23 rfl) ?_
        refine Chain.op (φ := Is (.slice p0_1a (au.ids.length) p0_1c)) (st_is _) (sp_loadO (v := (.slice p0_1a (au.ids.length) p0_1c)) (Has.loc rfl) own_b2_2 nb_b2_2_ar16_17 agg23 sz23 (Nat.le_of_ble_eq_true rfl) (fun h => by first | rfl | cases h) rfl) ?_
        refine Chain.op (φ := Is (.int .i64 ((k : Nat)))) (st_is _) (sp_move (Has.base rfl e7)) ?_
        refine Chain.op (φ := IsR (SA w S (blks hd1_17 ++ (b6_11 :: (b2_2 :: [])))) (D.str (au.ids[k]'hlt))) (st_r (sub_nb (fun b hb => List.mem_append_left _ hb))) (sp_indexS (i := k) ((Has.loc rfl).dat D_p0_1 (sub_nb (fun b hb => List.mem_append_left _ hb))) (Has.loc rfl) Try.underlying23 sz9 rfl hlt) ?_
        refine Chain.op (φ := Is (.string (au.ids[k]'hlt))) (st_is _) (sp_loadStr (Has.loc rfl) agg9 sz9) ?_
        refine Chain.op (φ := IsD (SF w (blks hd1_17 ++ (b6_11 :: (b2_2 :: [])))) (strsD ([au.ids[k]'hlt]))) (st_d (sub_nbF (fun b hb => List.mem_append_left _ hb))) (sp_bsl (ds := [D.str (au.ids[k]'hlt)]) Try.underlying23 sz9 z9 (Nat.le_of_ble_eq_true rfl) (Nat.le_of_ble_eq_true rfl) ⟨rfl, ((Has.loc rfl).str (rd_strAt D_p0_1 _ hlt)), trivial⟩ rfl (by simp [width]) (fr_sf kw (in_app A1_17.lt (in_cons own_b6_11.lt (in_cons own_b2_2.lt in_nil))))) ?_
        refine Chain.appB (ds := List.map D.str ((au.ids.take k).eraseIdx r)) (es := [D.str (au.ids[k]'hlt)]) (X := SF w (blks hd1_17 ++ (b6_11 :: (b2_2 :: [])))) Try.underlying23 inf9 (Nat.le_of_ble_eq_true rfl) (Has.loc rfl) (Has.loc rfl) (sub_nbF (fun b hb => List.mem_append_left _ hb)) (by simp [maxLen]; omega) (by simp; omega) kw.size ?_
        refine Chain.op (φ := Is (.pointer (some ⟨b6_11, 1, none⟩))) (st_is _) (sp_fieldO (Has.base rfl e6) Try.underlying27 rfl sz23 rfl) ?_
        refine Chain.done ⟨by kernel_rfl, fun a24 g W24 hsz24 hdf24 hk hg henv hrest hpsi => ?_⟩
        obtain ⟨e58, e57, -, -, -, -, -, -, -, -, -⟩ := henv
        replace e2 := (hrest 2 rfl).trans e2
        replace e5 := (hrest 5 rfl).trans e5
        replace e6 := (hrest 6 rfl).trans e6
        replace e7 := (hrest 7 rfl).trans e7
        obtain ⟨v57_24, ev⟩ : ∃ v, sl a24 57 = v := ⟨_, rfl⟩
        rw [ev] at e57
        obtain ⟨hd57_24, A_57_24, hf57_24⟩ := e57
        have e57 := ev; clear ev
        obtain ⟨v57_24a, v57_24n, v57_24c, ev⟩ := arr_sl A_57_24; subst ev
        replace A_57_24 := arrF_new (M' := (blks hd57_24 ++ (b6_11 :: (b2_2 :: [])))) A_57_24 (rep_app (rep_q fun _ h => h) (rep_cons (rep_cons rep_nil)))
        replace A_57_24 : Arr W24 w.heap.size 9 1 (SF w (blks hd57_24 ++ (b6_11 :: (b2_2 :: [])))) (List.map D.str (((au.ids.take k).eraseIdx r) ++ [au.ids[k]'hlt])) (.slice v57_24a v57_24n v57_24c) hd57_24 := by first | exact A_57_24 | (rw [List.map_append]; exact A_57_24)
        have nb_b2_2_24 : b2_2 ∉ blks hd57_24 := nb_new nb_b2_2_ar16_17 own_b2_2.lt hf57_24
        have nb_b6_11_24 : b6_11 ∉ blks hd57_24 := nb_new nb_b6_11_ar16_17 own_b6_11.lt hf57_24
        replace D_p0_1 := sa_app (M' := (blks hd57_24 ++ (b6_11 :: (b2_2 :: [])))) D_p0_1 hk (fun b hb => List.mem_append_left _ hb) (rep_app hf57_24 (rep_cons (rep_cons rep_nil)))
        replace own_b2_2 := own_app own_b2_2 hk nb_b2_2_ar16_17
        replace own_b6_11 := own_app own_b6_11 hk nb_b6_11_ar16_17
        replace kw := keeps_app kw hk A1_17.ge
        have e58 : sl a24 58 = (.pointer (some ⟨b6_11, 1, none⟩)) := e58
        clear hrest hk hg hpsi hf57_24 A1_17
        refine tail_store (b := b6_11) (o := 1) (v := (.slice v57_24a v57_24n v57_24c)) e58 e57 sz23 rfl own_b6_11 (Nat.le_of_ble_eq_true rfl) (all_cons rfl all_nil) (fun W25 hs own_b6_11 => ?_)
        have own_b6_11 : Own W25 b6_11 [(.int .i64 (au.th)), (.slice v57_24a v57_24n v57_24c)] 27 := own_b6_11
        replace own_b2_2 := own_store own_b2_2 hs ne_b2_2_b6_11
        replace D_p0_1 := sa_store D_p0_1 hs (by simp)
        replace A_57_24 := arrF_store A_57_24 hs (by simp) nb_b6_11_24
        replace kw := keeps_store kw hs lo_b6_11
        clear hs
        refine tail_nil (hK21 _ _ ?_)
        refine wp_reg All mixed hsz24 hdf24 st_tr trivial ?_
        refine Chain.op (φ := Is (.int .i64 ((k : Nat)))) (st_is _) (sp_move (Has.base rfl e7)) ?_
        refine Chain.op (φ := Is (.int .i64 (((k : Nat) : Int) + (1 : Int)))) (st_is _) (sp_add (Has.loc rfl) Has.cst (i64_in (by omega))) ?_
        refine Chain.op (φ := Is (.int .i64 (((k : Nat) : Int) + (1 : Int)))) (st_is _) (sp_assign (Has.loc rfl)) ?_
        refine Chain.done ⟨by kernel_rfl, fun a26 g W26 hsz26 hdf26 hk hg henv hrest hpsi => ?_⟩
        obtain ⟨e7, -, -, -⟩ := henv
        replace e2 := (hrest 2 rfl).trans e2
        replace e5 := (hrest 5 rfl).trans e5
        replace e6 := (hrest 6 rfl).trans e6
        replace A_57_24 := A_57_24.ext hk
        replace D_p0_1 := D_p0_1.ext hk
        have e7 : sl a26 7 = (.int .i64 (((k : Nat) : Int) + (1 : Int))) := e7
        replace own_b2_2 := own_b2_2.ext hk
        replace own_b6_11 := own_b6_11.ext hk
        replace kw := kw.trans (.of_ext hk)
        clear hrest hk hg hpsi
        rw [show ((au.ids.take k).eraseIdx r) ++ [au.ids[k]'hlt] = (au.ids.take (k + 1)).eraseIdx r by (first | exact less_put hlt hne | exact less_skip hlt heq)] at A_57_24
        exact tail_nil ⟨hlt, (.slice v57_24a v57_24n v57_24c), hd57_24, hsz26, hdf26, kw, e2, e5, e6, (e7.trans (congrArg (Value.int .i64) (by simp))), own_b2_2, own_b6_11, D_p0_1, A_57_24, nb_b2_2_24, nb_b6_11_24⟩
      · -- E: ((k : Nat) : Int) != ((r : Nat) : Int)
        have heq : k = r := by simp at hc; omega
        refine wp_skip (hK21 _ _ ?_)
        refine wp_reg All mixed hsz23 hdf23 st_tr trivial ?_
        refine Chain.op (φ := Is (.int .i64 ((k : Nat)))) (st_is _) (sp_move (Has.base rfl e7)) ?_
        refine Chain.op (φ := Is (.int .i64 (((k : Nat) : Int) + (1 : Int)))) (st_is _) (sp_add (Has.loc rfl) Has.cst (i64_in (by omega))) ?_
        refine Chain.op (φ := Is (.int .i64 (((k : Nat) : Int) + (1 : Int)))) (st_is _) (sp_assign (Has.loc rfl)) ?_
        refine Chain.done ⟨by kernel_rfl, fun a27 g W27 hsz27 hdf27 hk hg henv hrest hpsi => ?_⟩
        obtain ⟨e7, -, -, -⟩ := henv
        replace e2 := (hrest 2 rfl).trans e2
        replace e5 := (hrest 5 rfl).trans e5
        replace e6 := (hrest 6 rfl).trans e6
        replace A1_17 := A1_17.ext hk
        replace D_p0_1 := D_p0_1.ext hk
        have e7 : sl a27 7 = (.int .i64 (((k : Nat) : Int) + (1 : Int))) := e7
        replace own_b2_2 := own_b2_2.ext hk
        replace own_b6_11 := own_b6_11.ext hk
        replace kw := kw.trans (.of_ext hk)
        clear hrest hk hg hpsi
        rw [show (au.ids.take k).eraseIdx r = (au.ids.take (k + 1)).eraseIdx r by (first | exact less_put hlt hne | exact less_skip hlt heq)] at A1_17
        exact tail_nil ⟨hlt, va1_17, hd1_17, hsz27, hdf27, kw, e2, e5, e6, (e7.trans (congrArg (Value.int .i64) (by simp))), own_b2_2, own_b6_11, D_p0_1, A1_17, nb_b2_2_ar16_17, nb_b6_11_ar16_17⟩
    · -- E: decide (((k : Nat) : Int) < (au.ids.length : Int))
      have hge0 : ¬ k < au.ids.length := by simpa using hc
      have hge : k = au.ids.length := by omega
      rw [show (au.ids.take k).eraseIdx r = au.ids.eraseIdx r by rw [hge, List.take_length]] at A1_17
      have D_va1_17 : Rd W20 (SF w [b6_11, b2_2]) (strsD (au.ids.eraseIdx r)) va1_17 := arrF_rd A1_17 (ls_skipA (ls_keep (ls_keep ls_nil))) (nin_cons nb_b6_11_ar16_17 (nin_cons nb_b2_2_ar16_17 nin_nil))
      obtain ⟨va1_17a, va1_17c, ev, D2⟩ := rdS_out D_va1_17
      subst ev; replace D_va1_17 := D2; clear D2
      replace D_p0_1 := sa_less (M' := [b6_11, b2_2]) D_p0_1 (ls_skipA (ls_keep (ls_keep ls_nil)))
      refine wp_exit (hK13 _ _ ?_)
      refine wp_seq_k fun K28 hK28 => ?_
      refine wp_seq_k fun K29 hK29 => ?_
      refine wp_reg All mixed hsz20 hdf20 st_tr trivial ?_
      refine Chain.op (φ := Is (.agg #[(.int .i64 (au.th)), (.slice va1_17a ((au.ids.eraseIdx r).length) va1_17c)])) (st_is _) (sp_loadO (v := (.agg #[(.int .i64 (au.th)), (.slice va1_17a ((au.ids.eraseIdx r).length) va1_17c)])) (Has.base rfl e6) own_b6_11 trivial agg27 sz27 (Nat.le_of_ble_eq_true rfl) (fun h => by first | rfl | cases h) rfl) ?_
      refine Chain.op (φ := Is (.pointer (some ⟨b2_2, 1, none⟩))) (st_is _) (sp_fieldO (Has.base rfl e2) Try.underlying27 rfl sz23 rfl) ?_
      refine Chain.op (φ := Is (.slice p0_1a (au.ids.length) p0_1c)) (st_is _) (sp_loadO (v := (.slice p0_1a (au.ids.length) p0_1c)) (Has.loc rfl) own_b2_2 trivial agg23 sz23 (Nat.le_of_ble_eq_true rfl) (fun h => by first | rfl | cases h) rfl) ?_
      refine Chain.op (φ := Is (.int .i64 ((r : Nat)))) (st_is _) (sp_move (Has.base rfl e5)) ?_
      refine Chain.op (φ := IsR (SA w S [b6_11, b2_2]) (D.str (au.ids[r]'hrn))) (st_r sub_all) (sp_indexS (i := r) ((Has.loc rfl).dat D_p0_1 sub_all) (Has.loc rfl) Try.underlying23 sz9 rfl hrn) ?_
      refine Chain.op (φ := Is (.string (au.ids[r]'hrn))) (st_is _) (sp_loadStr (Has.loc rfl) agg9 sz9) ?_
      refine Chain.op (φ := Is (.bool (hasA (Au.mk (au.th) (au.ids.eraseIdx r)) (au.ids[r]'hrn)))) (st_is _) (sp_call2 (φ1 := IsD (SF w [b6_11, b2_2]) (Au.d (Au.mk (au.th) (au.ids.eraseIdx r)))) (φ2 := Is (.string (au.ids[r]'hrn))) ent20 ((Has.loc rfl).dat (rdAu_mk D_va1_17 : Rd W20 (SF w [b6_11, b2_2]) (Au.d (Au.mk (au.th) (au.ids.eraseIdx r))) _) sub_all) (Has.loc rfl) (fun g u1 u2 W hk hgk h1 h2 => by have h2 : u2 = _ := h2; subst u2; exact hasA_ok (Au.mk (au.th) (au.ids.eraseIdx r)) (au.ids[r]'hrn) W _ _ h1)) ?_
      refine Chain.op (φ := Is (.bool (hasA (Au.mk (au.th) (au.ids.eraseIdx r)) (au.ids[r]'hrn)))) (st_is _) (sp_move (Has.loc rfl)) ?_
      refine Chain.opE (t := 66) (x := hasA (Au.mk (au.th) (au.ids.eraseIdx r)) (au.ids[r]'hrn)) (φ := Is (.agg #[(.int .i64 (au.th)), (.slice p0_1a (au.ids.length) p0_1c)])) rfl (Has.loc rfl) (st_is _) (fun hg => sp_loadO (v := (.agg #[(.int .i64 (au.th)), (.slice p0_1a (au.ids.length) p0_1c)])) (Has.base rfl e2) own_b2_2 trivial agg27 sz27 (Nat.le_of_ble_eq_true rfl) (fun h => by first | rfl | cases h) rfl) ?_
      refine Chain.opE (t := 66) (x := hasA (Au.mk (au.th) (au.ids.eraseIdx r)) (au.ids[r]'hrn)) (φ := Is (.pointer (some ⟨b2_2, 1, none⟩))) rfl (Has.loc rfl) (st_is _) (fun hg => sp_fieldO (Has.base rfl e2) Try.underlying27 rfl sz23 rfl) ?_
      refine Chain.opE (t := 66) (x := hasA (Au.mk (au.th) (au.ids.eraseIdx r)) (au.ids[r]'hrn)) (φ := Is (.slice p0_1a (au.ids.length) p0_1c)) rfl (Has.loc rfl) (st_is _) (fun hg => sp_loadO (v := (.slice p0_1a (au.ids.length) p0_1c)) ((Has.loc rfl).undE hg) own_b2_2 trivial agg23 sz23 (Nat.le_of_ble_eq_true rfl) (fun h => by first | rfl | cases h) rfl) ?_
      refine Chain.opE (t := 66) (x := hasA (Au.mk (au.th) (au.ids.eraseIdx r)) (au.ids[r]'hrn)) (φ := Is (.int .i64 ((r : Nat)))) rfl (Has.loc rfl) (st_is _) (fun hg => sp_move (Has.base rfl e5)) ?_
      refine Chain.opE (t := 66) (x := hasA (Au.mk (au.th) (au.ids.eraseIdx r)) (au.ids[r]'hrn)) (φ := IsR (SA w S [b6_11, b2_2]) (D.str (au.ids[r]'hrn))) rfl (Has.loc rfl) (st_r sub_all) (fun hg => sp_indexS (i := r) (((Has.loc rfl).undE hg).dat D_p0_1 sub_all) ((Has.loc rfl).undE hg) Try.underlying23 sz9 rfl hrn) ?_
      refine Chain.opE (t := 66) (x := hasA (Au.mk (au.th) (au.ids.eraseIdx r)) (au.ids[r]'hrn)) (φ := Is (.string (au.ids[r]'hrn))) rfl (Has.loc rfl) (st_is _) (fun hg => sp_loadStr ((Has.loc rfl).undE hg) agg9 sz9) ?_
      refine Chain.opE (t := 66) (x := hasA (Au.mk (au.th) (au.ids.eraseIdx r)) (au.ids[r]'hrn)) (φ := Is (.bool (hasA au (au.ids[r]'hrn)))) rfl (Has.loc rfl) (st_is _) (fun hg => sp_call2 (φ1 := IsD (SA w S [b6_11, b2_2]) (Au.d (au))) (φ2 := Is (.string (au.ids[r]'hrn))) ent20 (((Has.loc rfl).undE hg).dat (rdAu_mk D_p0_1 : Rd W20 (SA w S [b6_11, b2_2]) (Au.d (au)) _) sub_all) ((Has.loc rfl).undE hg) (fun g u1 u2 W hk hgk h1 h2 => by have h2 : u2 = _ := h2; subst u2; exact hasA_ok (au) (au.ids[r]'hrn) W _ _ h1)) ?_
      refine Chain.opE (t := 66) (x := hasA (Au.mk (au.th) (au.ids.eraseIdx r)) (au.ids[r]'hrn)) (φ := Is (.bool (!(hasA au (au.ids[r]'hrn))))) rfl (Has.loc rfl) (st_is _) (fun hg => sp_not ((Has.loc rfl).undE hg)) ?_
      refine Chain.op (φ := Is (.bool ((hasA (Au.mk (au.th) (au.ids.eraseIdx r)) (au.ids[r]'hrn)) || (!(hasA au (au.ids[r]'hrn)))))) (st_is _) (sp_or (Has.loc rfl) ((Has.loc rfl).weak fun hq => hq)) ?_
      refine Chain.op (φ := Is (.bool ((hasA (Au.mk (au.th) (au.ids.eraseIdx r)) (au.ids[r]'hrn)) || (!(hasA au (au.ids[r]'hrn)))))) (st_is _) (sp_move (Has.loc rfl)) ?_
      refine Chain.opE (t := 76) (x := (hasA (Au.mk (au.th) (au.ids.eraseIdx r)) (au.ids[r]'hrn)) || (!(hasA au (au.ids[r]'hrn)))) (φ := Is (.agg #[(.int .i64 (au.th)), (.slice va1_17a ((au.ids.eraseIdx r).length) va1_17c)])) rfl (Has.loc rfl) (st_is _) (fun hg => sp_loadO (v := (.agg #[(.int .i64 (au.th)), (.slice va1_17a ((au.ids.eraseIdx r).length) va1_17c)])) (Has.base rfl e6) own_b6_11 trivial agg27 sz27 (Nat.le_of_ble_eq_true rfl) (fun h => by first | rfl | cases h) rfl) ?_
      refine Chain.opE (t := 76) (x := (hasA (Au.mk (au.th) (au.ids.eraseIdx r)) (au.ids[r]'hrn)) || (!(hasA au (au.ids[r]'hrn)))) (φ := Is (.bool (mayA (Au.mk (au.th) (au.ids.eraseIdx r))))) rfl (Has.loc rfl) (st_is _) (fun hg => sp_call1 (φ1 := IsD (SF w [b6_11, b2_2]) (Au.d (Au.mk (au.th) (au.ids.eraseIdx r)))) ent13 (((Has.loc rfl).undE hg).dat (rdAu_mk D_va1_17 : Rd W20 (SF w [b6_11, b2_2]) (Au.d (Au.mk (au.th) (au.ids.eraseIdx r))) _) sub_all) (fun g u1 W hk hgk h1 => mayA_ok (Au.mk (au.th) (au.ids.eraseIdx r)) W _ _ h1)) ?_
      refine Chain.opE (t := 76) (x := (hasA (Au.mk (au.th) (au.ids.eraseIdx r)) (au.ids[r]'hrn)) || (!(hasA au (au.ids[r]'hrn)))) (φ := Is (.pointer (some ⟨b2_2, 0, none⟩))) rfl (Has.loc rfl) (st_is _) (fun hg => sp_fieldO (Has.base rfl e2) Try.underlying27 rfl sz3 rfl) ?_
      refine Chain.opE (t := 76) (x := (hasA (Au.mk (au.th) (au.ids.eraseIdx r)) (au.ids[r]'hrn)) || (!(hasA au (au.ids[r]'hrn)))) (φ := Is (.int .i64 (au.th))) rfl (Has.loc rfl) (st_is _) (fun hg => sp_loadO (v := (.int .i64 (au.th))) ((Has.loc rfl).undE hg) own_b2_2 trivial agg3 sz3 (Nat.le_of_ble_eq_true rfl) (fun h => by first | rfl | cases h) rfl) ?_
      refine Chain.opE (t := 76) (x := (hasA (Au.mk (au.th) (au.ids.eraseIdx r)) (au.ids[r]'hrn)) || (!(hasA au (au.ids[r]'hrn)))) (φ := Is (.pointer (some ⟨b2_2, 1, none⟩))) rfl (Has.loc rfl) (st_is _) (fun hg => sp_fieldO (Has.base rfl e2) Try.underlying27 rfl sz23 rfl) ?_
      refine Chain.opE (t := 76) (x := (hasA (Au.mk (au.th) (au.ids.eraseIdx r)) (au.ids[r]'hrn)) || (!(hasA au (au.ids[r]'hrn)))) (φ := Is (.slice p0_1a (au.ids.length) p0_1c)) rfl (Has.loc rfl) (st_is _) (fun hg => sp_loadO (v := (.slice p0_1a (au.ids.length) p0_1c)) ((Has.loc rfl).undE hg) own_b2_2 trivial agg23 sz23 (Nat.le_of_ble_eq_true rfl) (fun h => by first | rfl | cases h) rfl) ?_
      refine Chain.opE (t := 76) (x := (hasA (Au.mk (au.th) (au.ids.eraseIdx r)) (au.ids[r]'hrn)) || (!(hasA au (au.ids[r]'hrn)))) (φ := Is (.int .i64 (au.ids.length))) rfl (Has.loc rfl) (st_is _) (fun hg => sp_lenSs Try.underlying23 (((Has.loc rfl).undE hg).dat D_p0_1 sub_all)) ?_
      refine Chain.opE (t := 76) (x := (hasA (Au.mk (au.th) (au.ids.eraseIdx r)) (au.ids[r]'hrn)) || (!(hasA au (au.ids[r]'hrn)))) (φ := Is (.bool (decide ((au.th : Int) < (au.ids.length : Int))))) rfl (Has.loc rfl) (st_is _) (fun hg => sp_lss ((Has.loc rfl).undE hg) ((Has.loc rfl).undE hg)) ?_
      refine Chain.opE (t := 76) (x := (hasA (Au.mk (au.th) (au.ids.eraseIdx r)) (au.ids[r]'hrn)) || (!(hasA au (au.ids[r]'hrn)))) (φ := Is (.bool (!((mayA (Au.mk (au.th) (au.ids.eraseIdx r))) == (decide ((au.th : Int) < (au.ids.length : Int))))))) rfl (Has.loc rfl) (st_is _) (fun hg => sp_bNeq Try.underlying4 ((Has.loc rfl).undE hg) ((Has.loc rfl).undE hg)) ?_
      refine Chain.op (φ := Is (.bool (((hasA (Au.mk (au.th) (au.ids.eraseIdx r)) (au.ids[r]'hrn)) || (!(hasA au (au.ids[r]'hrn)))) || (!((mayA (Au.mk (au.th) (au.ids.eraseIdx r))) == (decide ((au.th : Int) < (au.ids.length : Int)))))))) (st_is _) (sp_or (Has.loc rfl) ((Has.loc rfl).weak fun hq => hq)) ?_
      refine Chain.done ⟨by kernel_rfl, fun a30 g W30 hsz30 hdf30 hk hg henv hrest hpsi => ?_⟩
      obtain ⟨e86, -, -, -, -, -, -, -, -, -, -, -, -, -, -, -, -, -, -, -, -, -, -, -, -, -, -, -, -⟩ := henv
      replace e6 := (hrest 6 rfl).trans e6
      replace D_p0_1 := D_p0_1.ext hk
      replace D_va1_17 := D_va1_17.ext hk
      have e86 : sl a30 86 = (.bool (((hasA (Au.mk (au.th) (au.ids.eraseIdx r)) (au.ids[r]'hrn)) || (!(hasA au (au.ids[r]'hrn)))) || (!((mayA (Au.mk (au.th) (au.ids.eraseIdx r))) == (decide ((au.th : Int) < (au.ids.length : Int))))))) := e86
      replace own_b2_2 := own_b2_2.ext hk
      replace own_b6_11 := own_b6_11.ext hk
      replace kw := kw.trans (.of_ext hk)
      clear hrest hk hg hpsi
      refine tail_nil (hK29 _ _ ?_)
      refine wp_cond_split e86 (fun hc => ?_) (fun hc => ?_)
      · -- T: ((hasA (Au.mk (au.th) (au.ids.eraseIdx r)) (au.ids[r]'hrn)) || (!(hasA au (au.id
        exfalso
        rw [hml, hhl, hho] at hc
        simp at hc
      · -- E: ((hasA (Au.mk (au.th) (au.ids.eraseIdx r)) (au.ids[r]'hrn)) || (!(hasA au (au.id
        refine wp_skip (hK28 _ _ ?_)
        refine wp_seq_k fun K31 hK31 => ?_
        refine wp_seq_k fun K32 hK32 => ?_
        refine wp_reg All mixed hsz30 hdf30 st_tr trivial ?_
        refine Chain.op (φ := Is (.int .i64 (0))) (st_is _) (sp_assign Has.cst) ?_
        refine Chain.done ⟨by kernel_rfl, fun a33 g W33 hsz33 hdf33 hk hg henv hrest hpsi => ?_⟩
        obtain ⟨e8, -⟩ := henv
        replace e6 := (hrest 6 rfl).trans e6
        replace D_va1_17 := D_va1_17.ext hk
        have e8 : sl a33 8 = (.int .i64 (0)) := e8
        replace own_b2_2 := own_b2_2.ext hk
        replace own_b6_11 := own_b6_11.ext hk
        replace kw := kw.trans (.of_ext hk)
        clear hrest hk hg hpsi
        refine tail_nil (hK32 _ _ ?_)
        refine wp_block ?_
        replace D_va1_17 := sf_less (M' := [b6_11]) D_va1_17 (ls_keep ls_nil)
        refine wp_for ((au.ids.eraseIdx r).length) (fun j a W => a.tmps.size = 102 ∧ a.defers = [] ∧ Keeps All w W ∧ sl a 6 = (.pointer (some ⟨b6_11, 0, none⟩)) ∧ sl a 8 = (.int .i64 ((j : Nat))) ∧ Own W b6_11 [(.int .i64 (au.th)), (.slice va1_17a ((au.ids.eraseIdx r).length) va1_17c)] 27 ∧ Rd W (SF w [b6_11]) (strsD (au.ids.eraseIdx r)) (.slice va1_17a ((au.ids.eraseIdx r).length) va1_17c)) ⟨hsz33, hdf33, kw, e6, (e8.trans (congrArg (Value.int .i64) (rfl))), own_b6_11, D_va1_17⟩ ?_
        clear kw e6 e8 own_b6_11 D_va1_17
        rintro j a34 W34 hkj ⟨hsz34, hdf34, kw, e6, e8, own_b6_11, D_va1_17⟩
        refine wp_seq_k fun K35 hK35 => ?_
        refine wp_seq_k fun K36 hK36 => ?_
        refine wp_reg All mixed hsz34 hdf34 st_tr trivial ?_
        refine Chain.op (φ := Is (.int .i64 ((j : Nat)))) (st_is _) (sp_move (Has.base rfl e8)) ?_
        refine Chain.op (φ := Is (.pointer (some ⟨b6_11, 1, none⟩))) (st_is _) (sp_fieldO (Has.base rfl e6) Try.underlying27 rfl sz23 rfl) ?_
        refine Chain.op (φ := Is (.slice va1_17a ((au.ids.eraseIdx r).length) va1_17c)) (st_is _) (sp_loadO (v := (.slice va1_17a ((au.ids.eraseIdx r).length) va1_17c)) (Has.loc rfl) own_b6_11 trivial agg23 sz23 (Nat.le_of_ble_eq_true rfl) (fun h => by first | rfl | cases h) rfl) ?_
        refine Chain.op (φ := Is (.int .i64 ((au.ids.eraseIdx r).length))) (st_is _) (sp_lenSs Try.underlying23 ((Has.loc rfl).dat D_va1_17 sub_all)) ?_
        refine Chain.op (φ := Is (.bool (decide (((j : Nat) : Int) < ((au.ids.eraseIdx r).length : Int))))) (st_is _) (sp_lss (Has.loc rfl) (Has.loc rfl)) ?_
        refine Chain.done ⟨by kernel_rfl, fun a37 g W37 hsz37 hdf37 hk hg henv hrest hpsi => ?_⟩
        obtain ⟨e91, -, -, -, -, -⟩ := henv
        replace e6 := (hrest 6 rfl).trans e6
        replace e8 := (hrest 8 rfl).trans e8
        replace D_va1_17 := D_va1_17.ext hk
        have e91 : sl a37 91 = (.bool (decide (((j : Nat) : Int) < ((au.ids.eraseIdx r).length : Int)))) := e91
        replace own_b6_11 := own_b6_11.ext hk
        replace kw := kw.trans (.of_ext hk)
        clear hrest hk hg hpsi
        refine tail_nil (hK36 _ _ ?_)
        refine wp_cond_split e91 (fun hc => ?_) (fun hc => ?_)
        · -- T: decide (((j : Nat) : Int) < ((au.ids.eraseIdx r).length : Int))
          have hltj : j < (au.ids.eraseIdx r).length := by simpa using hc
          have hlj : (au.ids.eraseIdx r).length ≤ au.ids.length := List.length_eraseIdx_le _ _
          refine wp_skip (hK35 _ _ ?_)
          refine wp_seq_k fun K38 hK38 => ?_
          refine wp_block ?_
          refine wp_seq_k fun K39 hK39 => ?_
          refine wp_reg All mixed hsz37 hdf37 st_tr trivial ?_
          refine Chain.op (φ := Is (.agg #[(.int .i64 (au.th)), (.slice va1_17a ((au.ids.eraseIdx r).length) va1_17c)])) (st_is _) (sp_loadO (v := (.agg #[(.int .i64 (au.th)), (.slice va1_17a ((au.ids.eraseIdx r).length) va1_17c)])) (Has.base rfl e6) own_b6_11 trivial agg27 sz27 (Nat.le_of_ble_eq_true rfl) (fun h => by first | rfl | cases h) rfl) ?_
          refine Chain.op (φ := Is (.pointer (some ⟨b6_11, 1, none⟩))) (st_is _) (sp_fieldO (Has.base rfl e6) Try.underlying27 rfl sz23 rfl) ?_
          refine Chain.op (φ := Is (.slice va1_17a ((au.ids.eraseIdx r).length) va1_17c)) (st_is _) (sp_loadO (v := (.slice va1_17a ((au.ids.eraseIdx r).length) va1_17c)) (Has.loc rfl) own_b6_11 trivial agg23 sz23 (Nat.le_of_ble_eq_true rfl) (fun h => by first | rfl | cases h) rfl) ?_
          refine Chain.op (φ := Is (.int .i64 ((j : Nat)))) (st_is _) (sp_move (Has.base rfl e8)) ?_
          refine Chain.op (φ := IsR (SF w [b6_11]) (D.str ((au.ids.eraseIdx r)[j]'hltj))) (st_r sub_all) (sp_indexS (i := j) ((Has.loc rfl).dat D_va1_17 sub_all) (Has.loc rfl) Try.underlying23 sz9 rfl hltj) ?_
          refine Chain.op (φ := Is (.string ((au.ids.eraseIdx r)[j]'hltj))) (st_is _) (sp_loadStr (Has.loc rfl) agg9 sz9) ?_
          refine Chain.op (φ := Is (.bool (hasA (Au.mk (au.th) (au.ids.eraseIdx r)) ((au.ids.eraseIdx r)[j]'hltj)))) (st_is _) (sp_call2 (φ1 := IsD (SF w [b6_11]) (Au.d (Au.mk (au.th) (au.ids.eraseIdx r)))) (φ2 := Is (.string ((au.ids.eraseIdx r)[j]'hltj))) ent20 ((Has.loc rfl).dat (rdAu_mk D_va1_17 : Rd W37 (SF w [b6_11]) (Au.d (Au.mk (au.th) (au.ids.eraseIdx r))) _) sub_all) (Has.loc rfl) (fun g u1 u2 W hk hgk h1 h2 => by have h2 : u2 = _ := h2; subst u2; exact hasA_ok (Au.mk (au.th) (au.ids.eraseIdx r)) ((au.ids.eraseIdx r)[j]'hltj) W _ _ h1)) ?_
          refine Chain.op (φ := Is (.bool (!(hasA (Au.mk (au.th) (au.ids.eraseIdx r)) ((au.ids.eraseIdx r)[j]'hltj))))) (st_is _) (sp_not (Has.loc rfl)) ?_
          refine Chain.done ⟨by kernel_rfl, fun a40 g W40 hsz40 hdf40 hk hg henv hrest hpsi => ?_⟩
          obtain ⟨e101, -, -, -, -, -, -, -, -⟩ := henv
          replace e6 := (hrest 6 rfl).trans e6
          replace e8 := (hrest 8 rfl).trans e8
          replace D_va1_17 := D_va1_17.ext hk
          have e101 : sl a40 101 = (.bool (!(hasA (Au.mk (au.th) (au.ids.eraseIdx r)) ((au.ids.eraseIdx r)[j]'hltj)))) := e101
          replace own_b6_11 := own_b6_11.ext hk
          replace kw := kw.trans (.of_ext hk)
          clear hrest hk hg hpsi
          refine tail_nil (hK39 _ _ ?_)
          refine wp_cond_split e101 (fun hc => ?_) (fun hc => ?_)
          · -- T: !(hasA (Au.mk (au.th) (au.ids.eraseIdx r)) ((au.ids.eraseIdx r)[j]'hltj))
            exfalso
            rw [hasA_own (p := ⟨au.th, au.ids.eraseIdx r⟩) hltj] at hc
            simp at hc
          · -- E: !(hasA (Au.mk (au.th) (au.ids.eraseIdx r)) ((au.ids.eraseIdx r)[j]'hltj))
            refine wp_skip (hK38 _ _ ?_)
            refine wp_reg All mixed hsz40 hdf40 st_tr trivial ?_
            refine Chain.op (φ := Is (.int .i64 ((j : Nat)))) (st_is _) (sp_move (Has.base rfl e8)) ?_
            refine Chain.op (φ := Is (.int .i64 (((j : Nat) : Int) + (1 : Int)))) (st_is _) (sp_add (Has.loc rfl) Has.cst (i64_in (by omega))) ?_
            refine Chain.op (φ := Is (.int .i64 (((j : Nat) : Int) + (1 : Int)))) (st_is _) (sp_assign (Has.loc rfl)) ?_
            refine Chain.done ⟨by kernel_rfl, fun a41 g W41 hsz41 hdf41 hk hg henv hrest hpsi => ?_⟩
            obtain ⟨e8, -, -, -⟩ := henv
            replace e6 := (hrest 6 rfl).trans e6
            replace D_va1_17 := D_va1_17.ext hk
            have e8 : sl a41 8 = (.int .i64 (((j : Nat) : Int) + (1 : Int))) := e8
            replace own_b6_11 := own_b6_11.ext hk
            replace kw := kw.trans (.of_ext hk)
            clear hrest hk hg hpsi
            exact tail_nil ⟨hltj, hsz41, hdf41, kw, e6, (e8.trans (congrArg (Value.int .i64) (by simp))), own_b6_11, D_va1_17⟩
        · -- E: decide (((j : Nat) : Int) < ((au.ids.eraseIdx r).length : Int))
          refine wp_exit (hK31 _ _ ?_)
          refine wp_seq_k fun K42 hK42 => ?_
          refine wp_reg All mixed hsz37 hdf37 st_tr trivial ?_
          refine Chain.op (φ := Is (.bool (true))) (st_is _) (sp_assign Has.cst) ?_
          refine Chain.done ⟨by kernel_rfl, fun a43 g W43 hsz43 hdf43 hk hg henv hrest hpsi => ?_⟩
          obtain ⟨e4, -⟩ := henv
          replace D_va1_17 := D_va1_17.ext hk
          have e4 : sl a43 4 = (.bool (true)) := e4
          replace own_b6_11 := own_b6_11.ext hk
          replace kw := kw.trans (.of_ext hk)
          clear hrest hk hg hpsi
          refine tail_nil (hK42 _ _ ?_)
          refine wp_ret ?_
          refine (show bodyPost Try.prog Try.f5 _ .ret _ _ from ret1 rfl hdf43 e4 ⟨_, rfl, kw, ?_⟩)
          exact rfl

end Go.Proofs.Ytipdogbeoflkoaa
