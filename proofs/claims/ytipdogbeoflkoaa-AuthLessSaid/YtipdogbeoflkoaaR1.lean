import Derived.Test.YtipdogbeoflkoaaH9
import Derived.Test.YtipdogbeoflkoaaPureR
namespace Go.Proofs.Ytipdogbeoflkoaa
open Go.Eng
set_option maxRecDepth 100000 in
theorem AuthRows_ok (au : Au) (n : Int) (s : ByteArray) (hs : s.size ≤ maxLen) (w : World) (S : BSet) (v : Value) (hv : Rd w S au.d v) : Calls Try.prog 4 #[v, .int .i64 n, .string s] w (Ret w fun u _ => u = .bool true) := by
  obtain ⟨p0_1a, p0_1c, ev, D_p0_1⟩ := rdAu_out (rd_arg hv)
  subst ev
  refine enter Try.func4 rfl Try.ntmps4 (Nat.le_of_ble_eq_true rfl) fun a0 hsz0 hdf0 harg => ?_
  have e0 : sl a0 0 = (.agg #[(.int .i64 (au.th)), (.slice p0_1a (au.ids.length) p0_1c)]) := harg 0 (Nat.le_of_ble_eq_true rfl)
  have e1 : sl a0 1 = (.int .i64 (n)) := harg 1 (Nat.le_of_ble_eq_true rfl)
  have e2 : sl a0 2 = (.string (s)) := harg 2 (Nat.le_of_ble_eq_true rfl)
  have kw := Keeps.refl All w
  clear harg
  refine wp_seq_k fun K1 hK1 => ?_
  refine wp_reg All mixed hsz0 hdf0 st_tr trivial ?_
  refine Chain.boxOp (v := (.agg #[(.int .i64 (au.th)), (.slice p0_1a (au.ids.length) p0_1c)])) (Has.base rfl e0) ?_
  refine Chain.op (φ := Is (.bool (false))) (st_is _) (sp_assign Has.cst) ?_
  refine Chain.done ⟨by kernel_rfl, fun a2 g W2 hsz2 hdf2 hk hg henv hrest hpsi => ?_⟩
  obtain ⟨-, ⟨b3_2, e3, hb3, own_b3_2⟩, -⟩ := henv
  have lo_b3_2 : w.heap.size ≤ b3_2 := Nat.le_trans kw.size (hg.lo _ _ hb3)
  have own_b3_2 : Own W2 b3_2 [(.int .i64 (au.th)), (.slice p0_1a (au.ids.length) p0_1c)] 27 := own_b3_2
  replace e1 := (hrest 1 rfl).trans e1
  replace e2 := (hrest 2 rfl).trans e2
  replace D_p0_1 := sa_more D_p0_1 hk [b3_2] (in_cons (hg.lo _ _ hb3) in_nil)
  replace kw := kw.trans (.of_ext hk)
  clear hrest hk hg hpsi hb3
  refine tail_nil (hK1 _ _ ?_)
  refine wp_seq_k fun K3 hK3 => ?_
  refine wp_seq_k fun K4 hK4 => ?_
  refine wp_reg All mixed hsz2 hdf2 st_tr trivial ?_
  refine Chain.op (φ := Is (.agg #[(.int .i64 (au.th)), (.slice p0_1a (au.ids.length) p0_1c)])) (st_is _) (sp_loadO (v := (.agg #[(.int .i64 (au.th)), (.slice p0_1a (au.ids.length) p0_1c)])) (Has.base rfl e3) own_b3_2 trivial agg27 sz27 (Nat.le_of_ble_eq_true rfl) (fun h => by first | rfl | cases h) rfl) ?_
  refine Chain.op (φ := IsD (SA w S [b3_2]) (ausD ([au]))) (st_d sub_all) (sp_bsl (ds := [Au.d (au)]) Try.underlying74 sz27 z27 (Nat.le_of_ble_eq_true rfl) (Nat.le_of_ble_eq_true rfl) ⟨rfl, ((Has.loc rfl).dat (rdAu_mk D_p0_1 : Rd W2 (SA w S [b3_2]) (Au.d (au)) _) sub_all), trivial⟩ rfl (by intro e he; simp at he; rcases he with rfl <;> exact width_Au _) (fr_sa kw (in_cons own_b3_2.lt in_nil))) ?_
  refine Chain.op (φ := Is (.bool (decide (5000 ≤ szA ([au]) 0)))) (st_is _) (sp_call1 (φ1 := IsD (SA w S [b3_2]) (ausD ([au]))) ent21 (Has.loc rfl) (fun g u1 W hk hgk h1 => longA_ok ([au]) W _ _ h1)) ?_
  refine Chain.op (φ := Is (.bool (decide (5000 ≤ szA ([au]) 0)))) (st_is _) (sp_move (Has.loc rfl)) ?_
  refine Chain.opE (t := 12) (x := decide (5000 ≤ szA ([au]) 0)) (φ := Is (.string (s))) rfl (Has.loc rfl) (st_is _) (fun hg => sp_move (Has.base rfl e2)) ?_
  refine Chain.opE (t := 12) (x := decide (5000 ≤ szA ([au]) 0)) (φ := Is (.int .i64 (s.size))) rfl (Has.loc rfl) (st_is _) (fun hg => sp_lenS Try.underlying9 ((Has.loc rfl).undE hg)) ?_
  refine Chain.opE (t := 12) (x := decide (5000 ≤ szA ([au]) 0)) (φ := Is (.bool (decide ((5000 : Int) < (s.size : Int))))) rfl (Has.loc rfl) (st_is _) (fun hg => sp_gtr ((Has.loc rfl).undE hg) Has.cst) ?_
  refine Chain.op (φ := Is (.bool ((decide (5000 ≤ szA ([au]) 0)) || (decide ((5000 : Int) < (s.size : Int)))))) (st_is _) (sp_or (Has.loc rfl) ((Has.loc rfl).weak fun hq => hq)) ?_
  refine Chain.op (φ := Is (.bool ((decide (5000 ≤ szA ([au]) 0)) || (decide ((5000 : Int) < (s.size : Int)))))) (st_is _) (sp_move (Has.loc rfl)) ?_
  refine Chain.opE (t := 17) (x := (decide (5000 ≤ szA ([au]) 0)) || (decide ((5000 : Int) < (s.size : Int)))) (φ := Is (.pointer (some ⟨b3_2, 1, none⟩))) rfl (Has.loc rfl) (st_is _) (fun hg => sp_fieldO (Has.base rfl e3) Try.underlying27 rfl sz23 rfl) ?_
  refine Chain.opE (t := 17) (x := (decide (5000 ≤ szA ([au]) 0)) || (decide ((5000 : Int) < (s.size : Int)))) (φ := Is (.slice p0_1a (au.ids.length) p0_1c)) rfl (Has.loc rfl) (st_is _) (fun hg => sp_loadO (v := (.slice p0_1a (au.ids.length) p0_1c)) ((Has.loc rfl).undE hg) own_b3_2 trivial agg23 sz23 (Nat.le_of_ble_eq_true rfl) (fun h => by first | rfl | cases h) rfl) ?_
  refine Chain.opE (t := 17) (x := (decide (5000 ≤ szA ([au]) 0)) || (decide ((5000 : Int) < (s.size : Int)))) (φ := Is (.int .i64 (au.ids.length))) rfl (Has.loc rfl) (st_is _) (fun hg => sp_lenSs Try.underlying23 (((Has.loc rfl).undE hg).dat D_p0_1 sub_all)) ?_
  refine Chain.opE (t := 17) (x := (decide (5000 ≤ szA ([au]) 0)) || (decide ((5000 : Int) < (s.size : Int)))) (φ := Is (.bool ((au.ids.length : Int) == (0 : Int)))) rfl (Has.loc rfl) (st_is _) (fun hg => sp_eql ((Has.loc rfl).undE hg) Has.cst) ?_
  refine Chain.op (φ := Is (.bool (((decide (5000 ≤ szA ([au]) 0)) || (decide ((5000 : Int) < (s.size : Int)))) || ((au.ids.length : Int) == (0 : Int))))) (st_is _) (sp_or (Has.loc rfl) ((Has.loc rfl).weak fun hq => hq)) ?_
  refine Chain.op (φ := Is (.bool (((decide (5000 ≤ szA ([au]) 0)) || (decide ((5000 : Int) < (s.size : Int)))) || ((au.ids.length : Int) == (0 : Int))))) (st_is _) (sp_move (Has.loc rfl)) ?_
  refine Chain.opE (t := 23) (x := ((decide (5000 ≤ szA ([au]) 0)) || (decide ((5000 : Int) < (s.size : Int)))) || ((au.ids.length : Int) == (0 : Int))) (φ := Is (.bool (true))) rfl (Has.loc rfl) (st_is _) (fun hg => sp_call0  ent9  (fun g  W hk hgk  => awakeA_ok W)) ?_
  refine Chain.opE (t := 23) (x := ((decide (5000 ≤ szA ([au]) 0)) || (decide ((5000 : Int) < (s.size : Int)))) || ((au.ids.length : Int) == (0 : Int))) (φ := Is (.bool (!true))) rfl (Has.loc rfl) (st_is _) (fun hg => sp_not ((Has.loc rfl).undE hg)) ?_
  refine Chain.op (φ := Is (.bool ((((decide (5000 ≤ szA ([au]) 0)) || (decide ((5000 : Int) < (s.size : Int)))) || ((au.ids.length : Int) == (0 : Int))) || (!true)))) (st_is _) (sp_or (Has.loc rfl) ((Has.loc rfl).weak fun hq => hq)) ?_
  refine Chain.done ⟨by kernel_rfl, fun a5 g W5 hsz5 hdf5 hk hg henv hrest hpsi => ?_⟩
  obtain ⟨e26, -, -, -, -, -, -, -, -, -, -, -, -, -, -, -, -, -, -⟩ := henv
  replace e1 := (hrest 1 rfl).trans e1
  replace e2 := (hrest 2 rfl).trans e2
  replace e3 := (hrest 3 rfl).trans e3
  replace D_p0_1 := D_p0_1.ext hk
  have e26 : sl a5 26 = (.bool ((((decide (5000 ≤ szA ([au]) 0)) || (decide ((5000 : Int) < (s.size : Int)))) || ((au.ids.length : Int) == (0 : Int))) || (!true))) := e26
  replace own_b3_2 := own_b3_2.ext hk
  replace kw := kw.trans (.of_ext hk)
  clear hrest hk hg hpsi
  refine tail_nil (hK4 _ _ ?_)
  refine wp_cond_split e26 (fun hc => ?_) (fun hc => ?_)
  · -- T: (((decide (5000 ≤ szA ([au]) 0)) || (decide ((5000 : Int) < (s.size : Int)))) ||
    refine wp_seq_k fun K6 hK6 => ?_
    refine wp_reg All mixed hsz5 hdf5 st_tr trivial ?_
    refine Chain.op (φ := Is (.bool (true))) (st_is _) (sp_call0  ent9  (fun g  W hk hgk  => awakeA_ok W)) ?_
    refine Chain.op (φ := Is (.bool (true))) (st_is _) (sp_assign (Has.loc rfl)) ?_
    refine Chain.done ⟨by kernel_rfl, fun a7 g W7 hsz7 hdf7 hk hg henv hrest hpsi => ?_⟩
    obtain ⟨e6, -, -⟩ := henv
    replace D_p0_1 := D_p0_1.ext hk
    have e6 : sl a7 6 = (.bool (true)) := e6
    replace own_b3_2 := own_b3_2.ext hk
    replace kw := kw.trans (.of_ext hk)
    clear hrest hk hg hpsi
    refine tail_nil (hK6 _ _ ?_)
    refine wp_ret ?_
    refine (show bodyPost Try.prog Try.f4 _ .ret _ _ from ret1 rfl hdf7 e6 ⟨_, rfl, kw, ?_⟩)
    exact rfl
  · -- E: (((decide (5000 ≤ szA ([au]) 0)) || (decide ((5000 : Int) < (s.size : Int)))) ||
    simp only [Bool.or_eq_false_iff, decide_eq_false_iff_not] at hc
    obtain ⟨⟨⟨hlong, hslen⟩, hnz⟩, -⟩ := hc
    rw [szA_one] at hlong
    have hli := szI_len au.ids 0 (Nat.lt_of_not_le hlong)
    have hli2 := Nat.lt_of_not_le hlong
    have hpos : 0 < au.ids.length := by simp at hnz; exact List.length_pos_iff.2 hnz
    obtain ⟨ub, hub⟩ : ∃ u, IntKind.u64.wrap n = u := ⟨_, rfl⟩
    have hub2 : 0 ≤ ub := by rw [← hub]; exact u64_nonneg n
    obtain ⟨r, hr, hrn⟩ := tmod_nat hub2 hpos
    refine wp_skip (hK3 _ _ ?_)
    refine wp_seq_k fun K8 hK8 => ?_
    refine wp_reg All mixed hsz5 hdf5 st_tr trivial ?_
    refine Chain.op (φ := Is (.pointer (some ⟨b3_2, 0, none⟩))) (st_is _) (sp_fieldO (Has.base rfl e3) Try.underlying27 rfl sz3 rfl) ?_
    refine Chain.op (φ := Is (.int .i64 (au.th))) (st_is _) (sp_loadO (v := (.int .i64 (au.th))) (Has.loc rfl) own_b3_2 trivial agg3 sz3 (Nat.le_of_ble_eq_true rfl) (fun h => by first | rfl | cases h) rfl) ?_
    refine Chain.op (φ := Is (.agg #[(.int .i64 (au.th)), (.slice none 0 0)])) (st_is _) (sp_build (vs := [(0, (.int .i64 (au.th)))]) Try.underlying27 z27 (pl27 Try.underlying27) ⟨rfl, (Has.loc rfl), trivial⟩ rfl) ?_
    refine Chain.alloc z27 ?_
    refine Chain.done ⟨by kernel_rfl, fun a9 g W9 hsz9 hdf9 hk hg henv hrest hpsi => ?_⟩
    obtain ⟨⟨b7_9, e7, hb7, own_b7_9⟩, e30, -, -, -⟩ := henv
    have lo_b7_9 : w.heap.size ≤ b7_9 := Nat.le_trans kw.size (hg.lo _ _ hb7)
    have ne_b3_2_b7_9 : b3_2 ≠ b7_9 := Nat.ne_of_lt (Nat.lt_of_lt_of_le own_b3_2.lt (hg.lo _ _ hb7))
    have own_b7_9 : Own W9 b7_9 [(.int .i64 (0)), (.slice none 0 0)] 27 := own_b7_9
    replace e1 := (hrest 1 rfl).trans e1
    replace e2 := (hrest 2 rfl).trans e2
    replace e3 := (hrest 3 rfl).trans e3
    replace D_p0_1 := sa_more D_p0_1 hk [b7_9] (in_cons (hg.lo _ _ hb7) in_nil)
    have e30 : sl a9 30 = (.agg #[(.int .i64 (au.th)), (.slice none 0 0)]) := e30
    replace own_b3_2 := own_b3_2.ext hk
    replace kw := kw.trans (.of_ext hk)
    clear hrest hk hg hpsi hb7
    refine tail_store (b := b7_9) (o := 0) (v := (.agg #[(.int .i64 (au.th)), (.slice none 0 0)])) e7 e30 sz27 rfl own_b7_9 (Nat.le_of_ble_eq_true rfl) (all_cons rfl (all_cons rfl all_nil)) (fun W10 hs own_b7_9 => ?_)
    have own_b7_9 : Own W10 b7_9 [(.int .i64 (au.th)), (.slice none 0 0)] 27 := own_b7_9
    replace own_b3_2 := own_store own_b3_2 hs ne_b3_2_b7_9
    replace D_p0_1 := sa_store D_p0_1 hs (by simp)
    replace kw := keeps_store kw hs lo_b7_9
    clear hs
    refine tail_nil (hK8 _ _ ?_)
    refine wp_seq_k fun K11 hK11 => ?_
    refine wp_seq_k fun K12 hK12 => ?_
    refine wp_reg All mixed hsz9 hdf9 st_tr trivial ?_
    refine Chain.op (φ := Is (.int .i64 (0))) (st_is _) (sp_assign Has.cst) ?_
    refine Chain.done ⟨by kernel_rfl, fun a13 g W13 hsz13 hdf13 hk hg henv hrest hpsi => ?_⟩
    obtain ⟨e8, -⟩ := henv
    replace e1 := (hrest 1 rfl).trans e1
    replace e2 := (hrest 2 rfl).trans e2
    replace e3 := (hrest 3 rfl).trans e3
    replace e7 := (hrest 7 rfl).trans e7
    replace D_p0_1 := D_p0_1.ext hk
    have e8 : sl a13 8 = (.int .i64 (0)) := e8
    replace own_b3_2 := own_b3_2.ext hk
    replace own_b7_9 := own_b7_9.ext hk
    replace kw := kw.trans (.of_ext hk)
    clear hrest hk hg hpsi
    refine tail_nil (hK12 _ _ ?_)
    refine wp_block ?_
    have A_ar14 : Arr W13 w.heap.size 9 1 (SF w (blks none ++ (b7_9 :: (b3_2 :: [])))) (List.map D.str ([])) (.slice none 0 0) none := arr_nil _ _ _ _ _
    replace D_p0_1 : Rd W13 (SA w S (blks none ++ (b7_9 :: (b3_2 :: [])))) (strsD (au.ids)) (.slice p0_1a (au.ids.length) p0_1c) := D_p0_1
    refine wp_for (au.ids.length) (fun k a W => ∃ (va1_15 : Value), ∃ (hd1_15 : Option Nat), a.tmps.size = 83 ∧ a.defers = [] ∧ Keeps All w W ∧ sl a 1 = (.int .i64 (n)) ∧ sl a 2 = (.string (s)) ∧ sl a 3 = (.pointer (some ⟨b3_2, 0, none⟩)) ∧ sl a 7 = (.pointer (some ⟨b7_9, 0, none⟩)) ∧ sl a 8 = (.int .i64 ((k : Nat))) ∧ Own W b3_2 [(.int .i64 (au.th)), (.slice p0_1a (au.ids.length) p0_1c)] 27 ∧ Own W b7_9 [(.int .i64 (au.th)), va1_15] 27 ∧ Rd W (SA w S (blks hd1_15 ++ (b7_9 :: (b3_2 :: [])))) (strsD (au.ids)) (.slice p0_1a (au.ids.length) p0_1c) ∧ Arr W w.heap.size 9 1 (SF w (blks hd1_15 ++ (b7_9 :: (b3_2 :: [])))) (List.map D.str (rotL au.ids r k)) va1_15 hd1_15 ∧ b3_2 ∉ blks hd1_15 ∧ b7_9 ∉ blks hd1_15) ⟨(.slice none 0 0), none, hsz13, hdf13, kw, e1, e2, e3, e7, (e8.trans (congrArg (Value.int .i64) (rfl))), own_b3_2, own_b7_9, D_p0_1, A_ar14, nb_none, nb_none⟩ ?_
    clear kw e1 e2 e3 e7 e8 own_b3_2 own_b7_9 D_p0_1 A_ar14
    rintro k a15 W15 hkk ⟨va1_15, hd1_15, hsz15, hdf15, kw, e1, e2, e3, e7, e8, own_b3_2, own_b7_9, D_p0_1, A1_15, nb_b3_2_ar14_15, nb_b7_9_ar14_15⟩
    refine wp_seq_k fun K16 hK16 => ?_
    refine wp_seq_k fun K17 hK17 => ?_
    refine wp_reg All mixed hsz15 hdf15 st_tr trivial ?_
    refine Chain.op (φ := Is (.int .i64 ((k : Nat)))) (st_is _) (sp_move (Has.base rfl e8)) ?_
    refine Chain.op (φ := Is (.pointer (some ⟨b3_2, 1, none⟩))) (st_is _) (sp_fieldO (Has.base rfl e3) Try.underlying27 rfl sz23 rfl) ?_
    refine Chain.op (φ := Is (.slice p0_1a (au.ids.length) p0_1c)) (st_is _) (sp_loadO (v := (.slice p0_1a (au.ids.length) p0_1c)) (Has.loc rfl) own_b3_2 trivial agg23 sz23 (Nat.le_of_ble_eq_true rfl) (fun h => by first | rfl | cases h) rfl) ?_
    refine Chain.op (φ := Is (.int .i64 (au.ids.length))) (st_is _) (sp_lenSs Try.underlying23 ((Has.loc rfl).dat D_p0_1 sub_all)) ?_
    refine Chain.op (φ := Is (.bool (decide (((k : Nat) : Int) < (au.ids.length : Int))))) (st_is _) (sp_lss (Has.loc rfl) (Has.loc rfl)) ?_
    refine Chain.done ⟨by kernel_rfl, fun a18 g W18 hsz18 hdf18 hk hg henv hrest hpsi => ?_⟩
    obtain ⟨e35, -, -, -, -, -⟩ := henv
    replace e1 := (hrest 1 rfl).trans e1
    replace e2 := (hrest 2 rfl).trans e2
    replace e3 := (hrest 3 rfl).trans e3
    replace e7 := (hrest 7 rfl).trans e7
    replace e8 := (hrest 8 rfl).trans e8
    replace A1_15 := A1_15.ext hk
    replace D_p0_1 := D_p0_1.ext hk
    have e35 : sl a18 35 = (.bool (decide (((k : Nat) : Int) < (au.ids.length : Int)))) := e35
    replace own_b3_2 := own_b3_2.ext hk
    replace own_b7_9 := own_b7_9.ext hk
    replace kw := kw.trans (.of_ext hk)
    clear hrest hk hg hpsi
    refine tail_nil (hK17 _ _ ?_)
    refine wp_cond_split e35 (fun hc => ?_) (fun hc => ?_)
    · -- T: decide (((k : Nat) : Int) < (au.ids.length : Int))
      have hlt : k < au.ids.length := by simpa using hc
      have hmd : (r + k) % au.ids.length < au.ids.length := Nat.mod_lt _ hpos
      have hix : Int.tmod (((r : Nat) : Int) + ((k : Nat) : Int)) au.ids.length = (((r + k) % au.ids.length : Nat) : Int) := by rw [Int.tmod_eq_emod_of_nonneg (by omega)]; push_cast; rfl
      have hrl : (rotL au.ids r k).length = k := by simp [rotL]
      refine wp_skip (hK16 _ _ ?_)
      refine wp_seq_k fun K19 hK19 => ?_
      refine wp_block ?_
      refine wp_reg (fun k => k ∉ blks hd1_15) (Ψ := fun W => Arr W w.heap.size 9 1 (SF w (blks hd1_15 ++ (b7_9 :: (b3_2 :: [])))) (List.map D.str (rotL au.ids r k)) va1_15 hd1_15) mixed hsz18 hdf18 (fun W W' k h => h.ext k) A1_15 ?_
      refine Chain.op (φ := Is (.pointer (some ⟨b7_9, 1, none⟩))) (st_is _) (sp_fieldO (Has.base rfl e7) Try.underlying27 rfl sz23 rfl) ?_
      refine Chain.op (φ := Is va1_15) (st_is _) (sp_loadO (v := va1_15) (Has.loc rfl) own_b7_9 nb_b7_9_ar14_15 agg23 sz23 (Nat.le_of_ble_eq_true rfl) (fun h => by first | rfl | cases h) rfl) ?_
      refine Chain.op (φ := Is (.pointer (some ⟨b3_2, 1, none⟩))) (st_is _) (sp_fieldO (Has.base rfl e3) Try.underlying27 rfl sz23 rfl) ?_
      refine Chain.op (φ := Is (.slice p0_1a (au.ids.length) p0_1c)) (st_is _) (sp_loadO (v := (.slice p0_1a (au.ids.length) p0_1c)) (Has.loc rfl) own_b3_2 nb_b3_2_ar14_15 agg23 sz23 (Nat.le_of_ble_eq_true rfl) (fun h => by first | rfl | cases h) rfl) ?_
      refine Chain.op (φ := Is (.int .i64 (n))) (st_is _) (sp_move (Has.base rfl e1)) ?_
      refine Chain.op (φ := Is (.int .u64 (ub))) (st_is _) (sp_conv Try.underlying3 Try.underlying47 (Has.loc rfl) hub) ?_
      refine Chain.op (φ := Is (.pointer (some ⟨b3_2, 1, none⟩))) (st_is _) (sp_fieldO (Has.base rfl e3) Try.underlying27 rfl sz23 rfl) ?_
      refine Chain.op (φ := Is (.slice p0_1a (au.ids.length) p0_1c)) (st_is _) (sp_loadO (v := (.slice p0_1a (au.ids.length) p0_1c)) (Has.loc rfl) own_b3_2 nb_b3_2_ar14_15 agg23 sz23 (Nat.le_of_ble_eq_true rfl) (fun h => by first | rfl | cases h) rfl) ?_
      refine Chain.op (φ := Is (.int .i64 (au.ids.length))) (st_is _) (sp_lenSs Try.underlying23 ((Has.loc rfl).dat D_p0_1 (sub_nb (fun b hb => List.mem_append_left _ hb)))) ?_
      refine Chain.op (φ := Is (.int .u64 (au.ids.length))) (st_is _) (sp_conv Try.underlying3 Try.underlying47 (Has.loc rfl) (u64_in (by omega))) ?_
      refine Chain.op (φ := Is (.int .u64 (Int.tmod ub au.ids.length))) (st_is _) (sp_rem (Has.loc rfl) (Has.loc rfl) (by omega)) ?_
      refine Chain.op (φ := Is (.int .i64 ((r : Nat)))) (st_is _) (sp_conv Try.underlying47 Try.underlying3 (Has.loc rfl) (by rw [hr]; exact i64_in (by omega))) ?_
      refine Chain.op (φ := Is (.int .i64 ((k : Nat)))) (st_is _) (sp_move (Has.base rfl e8)) ?_
      refine Chain.op (φ := Is (.int .i64 (((r : Nat) : Int) + ((k : Nat) : Int)))) (st_is _) (sp_add (Has.loc rfl) (Has.loc rfl) (i64_in (by omega))) ?_
      refine Chain.op (φ := Is (.pointer (some ⟨b3_2, 1, none⟩))) (st_is _) (sp_fieldO (Has.base rfl e3) Try.underlying27 rfl sz23 rfl) ?_
      refine Chain.op (φ := Is (.slice p0_1a (au.ids.length) p0_1c)) (st_is _) (sp_loadO (v := (.slice p0_1a (au.ids.length) p0_1c)) (Has.loc rfl) own_b3_2 nb_b3_2_ar14_15 agg23 sz23 (Nat.le_of_ble_eq_true rfl) (fun h => by first | rfl | cases h) rfl) ?_
      refine Chain.op (φ := Is (.int .i64 (au.ids.length))) (st_is _) (sp_lenSs Try.underlying23 ((Has.loc rfl).dat D_p0_1 (sub_nb (fun b hb => List.mem_append_left _ hb)))) ?_
      refine Chain.op (φ := Is (.int .i64 (Int.tmod (((r : Nat) : Int) + ((k : Nat) : Int)) au.ids.length))) (st_is _) (sp_rem (Has.loc rfl) (Has.loc rfl) (by omega)) ?_
      refine Chain.op (φ := IsR (SA w S (blks hd1_15 ++ (b7_9 :: (b3_2 :: [])))) (D.str (au.ids[((r + k) % au.ids.length)]'hmd))) (st_r (sub_nb (fun b hb => List.mem_append_left _ hb))) (sp_indexS (i := ((r + k) % au.ids.length)) ((Has.loc rfl).dat D_p0_1 (sub_nb (fun b hb => List.mem_append_left _ hb))) (Has.loc rfl) Try.underlying23 sz9 hix hmd) ?_
      refine Chain.op (φ := Is (.string (au.ids[((r + k) % au.ids.length)]'hmd))) (st_is _) (sp_loadStr (Has.loc rfl) agg9 sz9) ?_
      refine Chain.op (φ := IsD (SF w (blks hd1_15 ++ (b7_9 :: (b3_2 :: [])))) (strsD ([au.ids[((r + k) % au.ids.length)]'hmd]))) (st_d (sub_nbF (fun b hb => List.mem_append_left _ hb))) (sp_bsl (ds := [D.str (au.ids[((r + k) % au.ids.length)]'hmd)]) Try.underlying23 sz9 z9 (Nat.le_of_ble_eq_true rfl) (Nat.le_of_ble_eq_true rfl) ⟨rfl, ((Has.loc rfl).str (rd_strAt D_p0_1 _ hmd)), trivial⟩ rfl (by simp [width]) (fr_sf kw (in_app A1_15.lt (in_cons own_b7_9.lt (in_cons own_b3_2.lt in_nil))))) ?_
      refine Chain.appB (ds := List.map D.str (rotL au.ids r k)) (es := [D.str (au.ids[((r + k) % au.ids.length)]'hmd)]) (X := SF w (blks hd1_15 ++ (b7_9 :: (b3_2 :: [])))) Try.underlying23 inf9 (Nat.le_of_ble_eq_true rfl) (Has.loc rfl) (Has.loc rfl) (sub_nbF (fun b hb => List.mem_append_left _ hb)) (by simp [maxLen]; omega) (by simp; omega) kw.size ?_
      refine Chain.op (φ := Is (.pointer (some ⟨b7_9, 1, none⟩))) (st_is _) (sp_fieldO (Has.base rfl e7) Try.underlying27 rfl sz23 rfl) ?_
      refine Chain.done ⟨by kernel_rfl, fun a20 g W20 hsz20 hdf20 hk hg henv hrest hpsi => ?_⟩
      obtain ⟨e60, e59, -, -, -, -, -, -, -, -, -, -, -, -, -, -, -, -, -, -, -, -, -, -⟩ := henv
      replace e1 := (hrest 1 rfl).trans e1
      replace e2 := (hrest 2 rfl).trans e2
      replace e3 := (hrest 3 rfl).trans e3
      replace e7 := (hrest 7 rfl).trans e7
      replace e8 := (hrest 8 rfl).trans e8
      obtain ⟨v59_20, ev⟩ : ∃ v, sl a20 59 = v := ⟨_, rfl⟩
      rw [ev] at e59
      obtain ⟨hd59_20, A_59_20, hf59_20⟩ := e59
      have e59 := ev; clear ev
      obtain ⟨v59_20a, v59_20n, v59_20c, ev⟩ := arr_sl A_59_20; subst ev
      replace A_59_20 := arrF_new (M' := (blks hd59_20 ++ (b7_9 :: (b3_2 :: [])))) A_59_20 (rep_app (rep_q fun _ h => h) (rep_cons (rep_cons rep_nil)))
      replace A_59_20 : Arr W20 w.heap.size 9 1 (SF w (blks hd59_20 ++ (b7_9 :: (b3_2 :: [])))) (List.map D.str ((rotL au.ids r k) ++ [au.ids[((r + k) % au.ids.length)]'hmd])) (.slice v59_20a v59_20n v59_20c) hd59_20 := by first | exact A_59_20 | (rw [List.map_append]; exact A_59_20)
      have nb_b3_2_20 : b3_2 ∉ blks hd59_20 := nb_new nb_b3_2_ar14_15 own_b3_2.lt hf59_20
      have nb_b7_9_20 : b7_9 ∉ blks hd59_20 := nb_new nb_b7_9_ar14_15 own_b7_9.lt hf59_20
      replace D_p0_1 := sa_app (M' := (blks hd59_20 ++ (b7_9 :: (b3_2 :: [])))) D_p0_1 hk (fun b hb => List.mem_append_left _ hb) (rep_app hf59_20 (rep_cons (rep_cons rep_nil)))
      replace own_b3_2 := own_app own_b3_2 hk nb_b3_2_ar14_15
      replace own_b7_9 := own_app own_b7_9 hk nb_b7_9_ar14_15
      replace kw := keeps_app kw hk A1_15.ge
      have e60 : sl a20 60 = (.pointer (some ⟨b7_9, 1, none⟩)) := e60
      clear hrest hk hg hpsi hf59_20 A1_15
      refine tail_store (b := b7_9) (o := 1) (v := (.slice v59_20a v59_20n v59_20c)) e60 e59 sz23 rfl own_b7_9 (Nat.le_of_ble_eq_true rfl) (all_cons rfl all_nil) (fun W21 hs own_b7_9 => ?_)
      have own_b7_9 : Own W21 b7_9 [(.int .i64 (au.th)), (.slice v59_20a v59_20n v59_20c)] 27 := own_b7_9
      replace own_b3_2 := own_store own_b3_2 hs ne_b3_2_b7_9
      replace D_p0_1 := sa_store D_p0_1 hs (by simp)
      replace A_59_20 := arrF_store A_59_20 hs (by simp) nb_b7_9_20
      replace kw := keeps_store kw hs lo_b7_9
      clear hs
      refine tail_nil (hK19 _ _ ?_)
      refine wp_reg All mixed hsz20 hdf20 st_tr trivial ?_
      refine Chain.op (φ := Is (.int .i64 ((k : Nat)))) (st_is _) (sp_move (Has.base rfl e8)) ?_
      refine Chain.op (φ := Is (.int .i64 (((k : Nat) : Int) + (1 : Int)))) (st_is _) (sp_add (Has.loc rfl) Has.cst (i64_in (by omega))) ?_
      refine Chain.op (φ := Is (.int .i64 (((k : Nat) : Int) + (1 : Int)))) (st_is _) (sp_assign (Has.loc rfl)) ?_
      refine Chain.done ⟨by kernel_rfl, fun a22 g W22 hsz22 hdf22 hk hg henv hrest hpsi => ?_⟩
      obtain ⟨e8, -, -, -⟩ := henv
      replace e1 := (hrest 1 rfl).trans e1
      replace e2 := (hrest 2 rfl).trans e2
      replace e3 := (hrest 3 rfl).trans e3
      replace e7 := (hrest 7 rfl).trans e7
      replace A_59_20 := A_59_20.ext hk
      replace D_p0_1 := D_p0_1.ext hk
      have e8 : sl a22 8 = (.int .i64 (((k : Nat) : Int) + (1 : Int))) := e8
      replace own_b3_2 := own_b3_2.ext hk
      replace own_b7_9 := own_b7_9.ext hk
      replace kw := kw.trans (.of_ext hk)
      clear hrest hk hg hpsi
      rw [show (rotL au.ids r k) ++ [au.ids[((r + k) % au.ids.length)]'hmd] = rotL au.ids r (k + 1) by exact rotL_step hmd] at A_59_20
      exact tail_nil ⟨hlt, (.slice v59_20a v59_20n v59_20c), hd59_20, hsz22, hdf22, kw, e1, e2, e3, e7, (e8.trans (congrArg (Value.int .i64) (by simp))), own_b3_2, own_b7_9, D_p0_1, A_59_20, nb_b3_2_20, nb_b7_9_20⟩
    · -- E: decide (((k : Nat) : Int) < (au.ids.length : Int))
      have hge0 : ¬ k < au.ids.length := by simpa using hc
      have hge : k = au.ids.length := by omega
      rw [show rotL au.ids r k = rotL au.ids r au.ids.length by rw [hge]] at A1_15
      have D_va1_15 : Rd W18 (SF w [b7_9, b3_2]) (strsD (rotL au.ids r au.ids.length)) va1_15 := arrF_rd A1_15 (ls_skipA (ls_keep (ls_keep ls_nil))) (nin_cons nb_b7_9_ar14_15 (nin_cons nb_b3_2_ar14_15 nin_nil))
      obtain ⟨va1_15a, va1_15c, ev, D2⟩ := rdS_out D_va1_15
      subst ev; replace D_va1_15 := D2; clear D2
      replace D_p0_1 := sa_less (M' := [b7_9, b3_2]) D_p0_1 (ls_skipA (ls_keep (ls_keep ls_nil)))
      refine wp_exit (hK11 _ _ ?_)
      refine wp_seq_k fun K23 hK23 => ?_
      refine wp_reg All mixed hsz18 hdf18 st_tr trivial ?_
      refine Chain.op (φ := Is (.agg #[(.int .i64 (au.th)), (.slice p0_1a (au.ids.length) p0_1c)])) (st_is _) (sp_loadO (v := (.agg #[(.int .i64 (au.th)), (.slice p0_1a (au.ids.length) p0_1c)])) (Has.base rfl e3) own_b3_2 trivial agg27 sz27 (Nat.le_of_ble_eq_true rfl) (fun h => by first | rfl | cases h) rfl) ?_
      refine Chain.op (φ := Is (.bool (mayA au))) (st_is _) (sp_call1 (φ1 := IsD (SA w S [b7_9, b3_2]) (Au.d (au))) ent13 ((Has.loc rfl).dat (rdAu_mk D_p0_1 : Rd W18 (SA w S [b7_9, b3_2]) (Au.d (au)) _) sub_all) (fun g u1 W hk hgk h1 => mayA_ok (au) W _ _ h1)) ?_
      refine Chain.op (φ := Is (.agg #[(.int .i64 (au.th)), (.slice va1_15a ((rotL au.ids r au.ids.length).length) va1_15c)])) (st_is _) (sp_loadO (v := (.agg #[(.int .i64 (au.th)), (.slice va1_15a ((rotL au.ids r au.ids.length).length) va1_15c)])) (Has.base rfl e7) own_b7_9 trivial agg27 sz27 (Nat.le_of_ble_eq_true rfl) (fun h => by first | rfl | cases h) rfl) ?_
      refine Chain.op (φ := Is (.bool (mayA (Au.mk (au.th) (rotL au.ids r au.ids.length))))) (st_is _) (sp_call1 (φ1 := IsD (SF w [b7_9, b3_2]) (Au.d (Au.mk (au.th) (rotL au.ids r au.ids.length)))) ent13 ((Has.loc rfl).dat (rdAu_mk D_va1_15 : Rd W18 (SF w [b7_9, b3_2]) (Au.d (Au.mk (au.th) (rotL au.ids r au.ids.length))) _) sub_all) (fun g u1 W hk hgk h1 => mayA_ok (Au.mk (au.th) (rotL au.ids r au.ids.length)) W _ _ h1)) ?_
      refine Chain.op (φ := Is (.bool ((mayA au) == (mayA (Au.mk (au.th) (rotL au.ids r au.ids.length)))))) (st_is _) (sp_bEql Try.underlying4 (Has.loc rfl) (Has.loc rfl)) ?_
      refine Chain.op (φ := Is (.bool ((mayA au) == (mayA (Au.mk (au.th) (rotL au.ids r au.ids.length)))))) (st_is _) (sp_move (Has.loc rfl)) ?_
      refine Chain.opE (t := 66) (x := (mayA au) == (mayA (Au.mk (au.th) (rotL au.ids r au.ids.length)))) (φ := Is (.agg #[(.int .i64 (au.th)), (.slice p0_1a (au.ids.length) p0_1c)])) rfl (Has.loc rfl) (st_is _) (fun hg => sp_loadO (v := (.agg #[(.int .i64 (au.th)), (.slice p0_1a (au.ids.length) p0_1c)])) (Has.base rfl e3) own_b3_2 trivial agg27 sz27 (Nat.le_of_ble_eq_true rfl) (fun h => by first | rfl | cases h) rfl) ?_
      refine Chain.opE (t := 66) (x := (mayA au) == (mayA (Au.mk (au.th) (rotL au.ids r au.ids.length)))) (φ := Is (.string (s))) rfl (Has.loc rfl) (st_is _) (fun hg => sp_move (Has.base rfl e2)) ?_
      refine Chain.opE (t := 66) (x := (mayA au) == (mayA (Au.mk (au.th) (rotL au.ids r au.ids.length)))) (φ := Is (.bool (hasA au s))) rfl (Has.loc rfl) (st_is _) (fun hg => sp_call2 (φ1 := IsD (SA w S [b7_9, b3_2]) (Au.d (au))) (φ2 := Is (.string (s))) ent20 (((Has.loc rfl).undE hg).dat (rdAu_mk D_p0_1 : Rd W18 (SA w S [b7_9, b3_2]) (Au.d (au)) _) sub_all) ((Has.loc rfl).undE hg) (fun g u1 u2 W hk hgk h1 h2 => by have h2 : u2 = _ := h2; subst u2; exact hasA_ok (au) (s) W _ _ h1)) ?_
      refine Chain.opE (t := 66) (x := (mayA au) == (mayA (Au.mk (au.th) (rotL au.ids r au.ids.length)))) (φ := Is (.agg #[(.int .i64 (au.th)), (.slice va1_15a ((rotL au.ids r au.ids.length).length) va1_15c)])) rfl (Has.loc rfl) (st_is _) (fun hg => sp_loadO (v := (.agg #[(.int .i64 (au.th)), (.slice va1_15a ((rotL au.ids r au.ids.length).length) va1_15c)])) (Has.base rfl e7) own_b7_9 trivial agg27 sz27 (Nat.le_of_ble_eq_true rfl) (fun h => by first | rfl | cases h) rfl) ?_
      refine Chain.opE (t := 66) (x := (mayA au) == (mayA (Au.mk (au.th) (rotL au.ids r au.ids.length)))) (φ := Is (.string (s))) rfl (Has.loc rfl) (st_is _) (fun hg => sp_move (Has.base rfl e2)) ?_
      refine Chain.opE (t := 66) (x := (mayA au) == (mayA (Au.mk (au.th) (rotL au.ids r au.ids.length)))) (φ := Is (.bool (hasA (Au.mk (au.th) (rotL au.ids r au.ids.length)) s))) rfl (Has.loc rfl) (st_is _) (fun hg => sp_call2 (φ1 := IsD (SF w [b7_9, b3_2]) (Au.d (Au.mk (au.th) (rotL au.ids r au.ids.length)))) (φ2 := Is (.string (s))) ent20 (((Has.loc rfl).undE hg).dat (rdAu_mk D_va1_15 : Rd W18 (SF w [b7_9, b3_2]) (Au.d (Au.mk (au.th) (rotL au.ids r au.ids.length))) _) sub_all) ((Has.loc rfl).undE hg) (fun g u1 u2 W hk hgk h1 h2 => by have h2 : u2 = _ := h2; subst u2; exact hasA_ok (Au.mk (au.th) (rotL au.ids r au.ids.length)) (s) W _ _ h1)) ?_
      refine Chain.opE (t := 66) (x := (mayA au) == (mayA (Au.mk (au.th) (rotL au.ids r au.ids.length)))) (φ := Is (.bool ((hasA au s) == (hasA (Au.mk (au.th) (rotL au.ids r au.ids.length)) s)))) rfl (Has.loc rfl) (st_is _) (fun hg => sp_bEql Try.underlying4 ((Has.loc rfl).undE hg) ((Has.loc rfl).undE hg)) ?_
      refine Chain.op (φ := Is (.bool (((mayA au) == (mayA (Au.mk (au.th) (rotL au.ids r au.ids.length)))) && ((hasA au s) == (hasA (Au.mk (au.th) (rotL au.ids r au.ids.length)) s))))) (st_is _) (sp_and (Has.loc rfl) ((Has.loc rfl).weak fun hq => hq)) ?_
      refine Chain.op (φ := Is (.bool (((mayA au) == (mayA (Au.mk (au.th) (rotL au.ids r au.ids.length)))) && ((hasA au s) == (hasA (Au.mk (au.th) (rotL au.ids r au.ids.length)) s))))) (st_is _) (sp_move (Has.loc rfl)) ?_
      refine Chain.opE (t := 75) (x := ((mayA au) == (mayA (Au.mk (au.th) (rotL au.ids r au.ids.length)))) && ((hasA au s) == (hasA (Au.mk (au.th) (rotL au.ids r au.ids.length)) s))) (φ := Is (.agg #[(.int .i64 (au.th)), (.slice va1_15a ((rotL au.ids r au.ids.length).length) va1_15c)])) rfl (Has.loc rfl) (st_is _) (fun hg => sp_loadO (v := (.agg #[(.int .i64 (au.th)), (.slice va1_15a ((rotL au.ids r au.ids.length).length) va1_15c)])) (Has.base rfl e7) own_b7_9 trivial agg27 sz27 (Nat.le_of_ble_eq_true rfl) (fun h => by first | rfl | cases h) rfl) ?_
      refine Chain.opE (t := 75) (x := ((mayA au) == (mayA (Au.mk (au.th) (rotL au.ids r au.ids.length)))) && ((hasA au s) == (hasA (Au.mk (au.th) (rotL au.ids r au.ids.length)) s))) (φ := Is (.pointer (some ⟨b3_2, 1, none⟩))) rfl (Has.loc rfl) (st_is _) (fun hg => sp_fieldO (Has.base rfl e3) Try.underlying27 rfl sz23 rfl) ?_
      refine Chain.opE (t := 75) (x := ((mayA au) == (mayA (Au.mk (au.th) (rotL au.ids r au.ids.length)))) && ((hasA au s) == (hasA (Au.mk (au.th) (rotL au.ids r au.ids.length)) s))) (φ := Is (.slice p0_1a (au.ids.length) p0_1c)) rfl (Has.loc rfl) (st_is _) (fun hg => sp_loadO (v := (.slice p0_1a (au.ids.length) p0_1c)) ((Has.loc rfl).undE hg) own_b3_2 trivial agg23 sz23 (Nat.le_of_ble_eq_true rfl) (fun h => by first | rfl | cases h) rfl) ?_
      refine Chain.opE (t := 75) (x := ((mayA au) == (mayA (Au.mk (au.th) (rotL au.ids r au.ids.length)))) && ((hasA au s) == (hasA (Au.mk (au.th) (rotL au.ids r au.ids.length)) s))) (φ := IsR (SA w S [b7_9, b3_2]) (D.str (au.ids[0]'hpos))) rfl (Has.loc rfl) (st_r sub_all) (fun hg => sp_indexS (i := 0) (((Has.loc rfl).undE hg).dat D_p0_1 sub_all) Has.cst Try.underlying23 sz9 rfl hpos) ?_
      refine Chain.opE (t := 75) (x := ((mayA au) == (mayA (Au.mk (au.th) (rotL au.ids r au.ids.length)))) && ((hasA au s) == (hasA (Au.mk (au.th) (rotL au.ids r au.ids.length)) s))) (φ := Is (.string (au.ids[0]'hpos))) rfl (Has.loc rfl) (st_is _) (fun hg => sp_loadStr ((Has.loc rfl).undE hg) agg9 sz9) ?_
      refine Chain.opE (t := 75) (x := ((mayA au) == (mayA (Au.mk (au.th) (rotL au.ids r au.ids.length)))) && ((hasA au s) == (hasA (Au.mk (au.th) (rotL au.ids r au.ids.length)) s))) (φ := Is (.bool (hasA (Au.mk (au.th) (rotL au.ids r au.ids.length)) (au.ids[0]'hpos)))) rfl (Has.loc rfl) (st_is _) (fun hg => sp_call2 (φ1 := IsD (SF w [b7_9, b3_2]) (Au.d (Au.mk (au.th) (rotL au.ids r au.ids.length)))) (φ2 := Is (.string (au.ids[0]'hpos))) ent20 (((Has.loc rfl).undE hg).dat (rdAu_mk D_va1_15 : Rd W18 (SF w [b7_9, b3_2]) (Au.d (Au.mk (au.th) (rotL au.ids r au.ids.length))) _) sub_all) ((Has.loc rfl).undE hg) (fun g u1 u2 W hk hgk h1 h2 => by have h2 : u2 = _ := h2; subst u2; exact hasA_ok (Au.mk (au.th) (rotL au.ids r au.ids.length)) (au.ids[0]'hpos) W _ _ h1)) ?_
      refine Chain.op (φ := Is (.bool ((((mayA au) == (mayA (Au.mk (au.th) (rotL au.ids r au.ids.length)))) && ((hasA au s) == (hasA (Au.mk (au.th) (rotL au.ids r au.ids.length)) s))) && (hasA (Au.mk (au.th) (rotL au.ids r au.ids.length)) (au.ids[0]'hpos))))) (st_is _) (sp_and (Has.loc rfl) ((Has.loc rfl).weak fun hq => hq)) ?_
      refine Chain.op (φ := Is (.bool ((((mayA au) == (mayA (Au.mk (au.th) (rotL au.ids r au.ids.length)))) && ((hasA au s) == (hasA (Au.mk (au.th) (rotL au.ids r au.ids.length)) s))) && (hasA (Au.mk (au.th) (rotL au.ids r au.ids.length)) (au.ids[0]'hpos))))) (st_is _) (sp_assign (Has.loc rfl)) ?_
      refine Chain.done ⟨by kernel_rfl, fun a24 g W24 hsz24 hdf24 hk hg henv hrest hpsi => ?_⟩
      obtain ⟨e6, -, -, -, -, -, -, -, -, -, -, -, -, -, -, -, -, -, -, -, -, -, -, -⟩ := henv
      replace D_p0_1 := D_p0_1.ext hk
      replace D_va1_15 := D_va1_15.ext hk
      have e6 : sl a24 6 = (.bool ((((mayA au) == (mayA (Au.mk (au.th) (rotL au.ids r au.ids.length)))) && ((hasA au s) == (hasA (Au.mk (au.th) (rotL au.ids r au.ids.length)) s))) && (hasA (Au.mk (au.th) (rotL au.ids r au.ids.length)) (au.ids[0]'hpos)))) := e6
      replace own_b3_2 := own_b3_2.ext hk
      replace own_b7_9 := own_b7_9.ext hk
      replace kw := kw.trans (.of_ext hk)
      clear hrest hk hg hpsi
      refine tail_nil (hK23 _ _ ?_)
      refine wp_ret ?_
      refine (show bodyPost Try.prog Try.f4 _ .ret _ _ from ret1 rfl hdf24 e6 ⟨_, rfl, kw, ?_⟩)
      refine congrArg Value.bool ?_
      rw [mayA_rot hrn, hasA_rot hrn, hasA_rot hrn]
      have h0 : hasA au au.ids[0] = true := (memB_iff _ _).2 (List.getElem_mem _)
      simp [h0]

end Go.Proofs.Ytipdogbeoflkoaa
