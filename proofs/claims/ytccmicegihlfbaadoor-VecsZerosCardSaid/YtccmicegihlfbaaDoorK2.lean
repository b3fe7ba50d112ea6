/- The rounds of a book: kinds of which there is no list. -/
import Derived.Test.YtccmicegihlfbaaDoorMark
import Derived.Test.YtccmicegihlfbaaDoorTy
set_option linter.unusedVariables false
set_option linter.unusedSimpArgs false
namespace Go.Proofs.YtccmicegihlfbaaDoor
open Go.RowKit

set_option maxHeartbeats 400000 in
theorem fillByte_e (w0 : World) (kb : Nat) (no : Int) (vI vR : Value) (hb : Blk w0 kb (bookCs no vI vR) 54) :
    Ret Tryd.prog 55 [(.pointer (some ⟨kb, 0, none⟩))] w0 (fun r w1 => w0 = w1) := by
  have b0 : Blk w0 kb [(.int .i64 no), (.slice none 0 0), vI, (.slice none 0 0), (.slice none 0 0), (.slice none 0 0), (.slice none 0 0), (.slice none 0 0), vR, (.slice none 0 0), (.slice none 0 0), (.slice none 0 0), (.slice none 0 0)] 54 := hb
  refine Ret_of (n := 35) Tryd.func55 rfl rfl (Nat.le_of_ble_eq_true rfl) ?_
  refine W_seq ?_
  refine W_region rfl ?_
  refine S_assign rfl rfl rfl (v := (.int .i64 0)) (rfl) ?_
  refine OPS.nil ?_
  change WP _ _ _ _ _ _
  refine W_block ?_
  refine W_loop (fun k σ w => σ 0 = .pointer (some ⟨kb, 0, none⟩) ∧ σ 2 = .int .i64 0 ∧ w0 = w) (0) ⟨rfl, rfl, rfl⟩ ?_
  rintro k σ w ⟨s0, s1, rfl⟩
  refine W_seq ?_
  refine W_seq ?_
  refine W_region rfl ?_
  refine S_move rfl rfl rfl (v := (.int .i64 0)) (s1) ?_
  refine S_move rfl rfl rfl (v := (.pointer (some ⟨kb, 0, none⟩))) (s0) ?_
  refine S_nil rfl rfl rfl (rfl) ?_
  refine S_field ft_assayerlaw01_Book_1 rfl rfl rfl (g := kb) (o := 0) (rfl) (o' := 1) rfl ?_
  refine S_load rfl rfl rfl (rfl) (LD.blk1 ti_Lassayerlaw01_heldByte b0 (v := (.slice none 0 0)) rfl) ?_
  refine S_len Tryd.underlying41 rfl rfl rfl (rfl) (m := 0) (⟨_, _, rfl⟩) ?_
  refine S_bin rfl rfl rfl rfl rfl (rfl) (rfl) (v := .bool false) (by simp [binV]) ?_
  refine OPS.nil ?_
  change WP _ _ _ _ _ _
  refine W_cond rfl (b := false) (rfl) (fun h => (by cases h)) (fun _ => ?_)
  refine W_exit ?_
  change Fin' _ _ _ _ _ _
  exact End0 rfl rfl

set_option maxHeartbeats 400000 in
theorem growByte_e (w0 : World) (kb : Nat) (no : Int) (vI vR : Value) (hb : Blk w0 kb (bookCs no vI vR) 54) :
    Ret Tryd.prog 67 [(.pointer (some ⟨kb, 0, none⟩))] w0 (fun r w1 => w0 = w1) := by
  have b0 : Blk w0 kb [(.int .i64 no), (.slice none 0 0), vI, (.slice none 0 0), (.slice none 0 0), (.slice none 0 0), (.slice none 0 0), (.slice none 0 0), vR, (.slice none 0 0), (.slice none 0 0), (.slice none 0 0), (.slice none 0 0)] 54 := hb
  refine Ret_of (n := 42) Tryd.func67 rfl rfl (Nat.le_of_ble_eq_true rfl) ?_
  refine W_seq ?_
  refine W_region rfl ?_
  refine S_assign rfl rfl rfl (v := (.int .i64 0)) (rfl) ?_
  refine OPS.nil ?_
  change WP _ _ _ _ _ _
  refine W_block ?_
  refine W_loop (fun k σ w => σ 0 = .pointer (some ⟨kb, 0, none⟩) ∧ σ 2 = .int .i64 0 ∧ w0 = w) (0) ⟨rfl, rfl, rfl⟩ ?_
  rintro k σ w ⟨s0, s1, rfl⟩
  refine W_seq ?_
  refine W_seq ?_
  refine W_region rfl ?_
  refine S_move rfl rfl rfl (v := (.int .i64 0)) (s1) ?_
  refine S_move rfl rfl rfl (v := (.pointer (some ⟨kb, 0, none⟩))) (s0) ?_
  refine S_nil rfl rfl rfl (rfl) ?_
  refine S_field ft_assayerlaw01_Book_1 rfl rfl rfl (g := kb) (o := 0) (rfl) (o' := 1) rfl ?_
  refine S_load rfl rfl rfl (rfl) (LD.blk1 ti_Lassayerlaw01_heldByte b0 (v := (.slice none 0 0)) rfl) ?_
  refine S_len Tryd.underlying41 rfl rfl rfl (rfl) (m := 0) (⟨_, _, rfl⟩) ?_
  refine S_bin rfl rfl rfl rfl rfl (rfl) (rfl) (v := .bool false) (by simp [binV]) ?_
  refine OPS.nil ?_
  change WP _ _ _ _ _ _
  refine W_cond rfl (b := false) (rfl) (fun h => (by cases h)) (fun _ => ?_)
  refine W_exit ?_
  change Fin' _ _ _ _ _ _
  exact End0 rfl rfl

set_option maxHeartbeats 400000 in
theorem lookByte_e (w0 : World) (kb : Nat) (no : Int) (vI vR : Value) (hb : Blk w0 kb (bookCs no vI vR) 54) :
    Ret Tryd.prog 79 [(.pointer (some ⟨kb, 0, none⟩))] w0 (fun r w1 => r = .bool true ∧ w0 = w1) := by
  have b0 : Blk w0 kb [(.int .i64 no), (.slice none 0 0), vI, (.slice none 0 0), (.slice none 0 0), (.slice none 0 0), (.slice none 0 0), (.slice none 0 0), vR, (.slice none 0 0), (.slice none 0 0), (.slice none 0 0), (.slice none 0 0)] 54 := hb
  refine Ret_of (n := 64) Tryd.func79 rfl rfl (Nat.le_of_ble_eq_true rfl) ?_
  refine W_seq ?_
  refine W_region rfl ?_
  refine S_assign rfl rfl rfl (v := (.bool false)) (rfl) ?_
  refine OPS.nil ?_
  change WP _ _ _ _ _ _
  refine W_seq ?_
  refine W_seq ?_
  refine W_region rfl ?_
  refine S_assign rfl rfl rfl (v := (.int .i64 0)) (rfl) ?_
  refine OPS.nil ?_
  change WP _ _ _ _ _ _
  refine W_block ?_
  refine W_loop (fun k σ w => σ 0 = .pointer (some ⟨kb, 0, none⟩) ∧ σ 3 = .int .i64 0 ∧ w0 = w) (0) ⟨rfl, rfl, rfl⟩ ?_
  rintro k σ w ⟨s0, s1, rfl⟩
  refine W_seq ?_
  refine W_seq ?_
  refine W_region rfl ?_
  refine S_move rfl rfl rfl (v := (.int .i64 0)) (s1) ?_
  refine S_move rfl rfl rfl (v := (.pointer (some ⟨kb, 0, none⟩))) (s0) ?_
  refine S_nil rfl rfl rfl (rfl) ?_
  refine S_field ft_assayerlaw01_Book_1 rfl rfl rfl (g := kb) (o := 0) (rfl) (o' := 1) rfl ?_
  refine S_load rfl rfl rfl (rfl) (LD.blk1 ti_Lassayerlaw01_heldByte b0 (v := (.slice none 0 0)) rfl) ?_
  refine S_len Tryd.underlying41 rfl rfl rfl (rfl) (m := 0) (⟨_, _, rfl⟩) ?_
  refine S_bin rfl rfl rfl rfl rfl (rfl) (rfl) (v := .bool false) (by simp [binV]) ?_
  refine OPS.nil ?_
  change WP _ _ _ _ _ _
  refine W_cond rfl (b := false) (rfl) (fun h => (by cases h)) (fun _ => ?_)
  refine W_exit ?_
  change WP _ _ _ _ _ _
  refine W_seq ?_
  refine W_region rfl ?_
  refine S_assign rfl rfl rfl (v := (.bool true)) (rfl) ?_
  refine OPS.nil ?_
  change WP _ _ _ _ _ _
  refine W_ret ?_
  change Fin' _ _ _ _ _ _
  refine End1 (n := ⟨64, []⟩) (t := 2) rfl (by decide) (v := (.bool true)) (rfl) ?_
  exact ⟨rfl, rfl⟩

set_option maxHeartbeats 400000 in
theorem fillNum_e (w0 : World) (kb : Nat) (no : Int) (vI vR : Value) (hb : Blk w0 kb (bookCs no vI vR) 54) :
    Ret Tryd.prog 57 [(.pointer (some ⟨kb, 0, none⟩))] w0 (fun r w1 => w0 = w1) := by
  have b0 : Blk w0 kb [(.int .i64 no), (.slice none 0 0), vI, (.slice none 0 0), (.slice none 0 0), (.slice none 0 0), (.slice none 0 0), (.slice none 0 0), vR, (.slice none 0 0), (.slice none 0 0), (.slice none 0 0), (.slice none 0 0)] 54 := hb
  refine Ret_of (n := 35) Tryd.func57 rfl rfl (Nat.le_of_ble_eq_true rfl) ?_
  refine W_seq ?_
  refine W_region rfl ?_
  refine S_assign rfl rfl rfl (v := (.int .i64 0)) (rfl) ?_
  refine OPS.nil ?_
  change WP _ _ _ _ _ _
  refine W_block ?_
  refine W_loop (fun k σ w => σ 0 = .pointer (some ⟨kb, 0, none⟩) ∧ σ 2 = .int .i64 0 ∧ w0 = w) (0) ⟨rfl, rfl, rfl⟩ ?_
  rintro k σ w ⟨s0, s1, rfl⟩
  refine W_seq ?_
  refine W_seq ?_
  refine W_region rfl ?_
  refine S_move rfl rfl rfl (v := (.int .i64 0)) (s1) ?_
  refine S_move rfl rfl rfl (v := (.pointer (some ⟨kb, 0, none⟩))) (s0) ?_
  refine S_nil rfl rfl rfl (rfl) ?_
  refine S_field ft_assayerlaw01_Book_3 rfl rfl rfl (g := kb) (o := 0) (rfl) (o' := 3) rfl ?_
  refine S_load rfl rfl rfl (rfl) (LD.blk1 ti_Lassayerlaw01_heldNum b0 (v := (.slice none 0 0)) rfl) ?_
  refine S_len Tryd.underlying43 rfl rfl rfl (rfl) (m := 0) (⟨_, _, rfl⟩) ?_
  refine S_bin rfl rfl rfl rfl rfl (rfl) (rfl) (v := .bool false) (by simp [binV]) ?_
  refine OPS.nil ?_
  change WP _ _ _ _ _ _
  refine W_cond rfl (b := false) (rfl) (fun h => (by cases h)) (fun _ => ?_)
  refine W_exit ?_
  change Fin' _ _ _ _ _ _
  exact End0 rfl rfl

set_option maxHeartbeats 400000 in
theorem growNum_e (w0 : World) (kb : Nat) (no : Int) (vI vR : Value) (hb : Blk w0 kb (bookCs no vI vR) 54) :
    Ret Tryd.prog 69 [(.pointer (some ⟨kb, 0, none⟩))] w0 (fun r w1 => w0 = w1) := by
  have b0 : Blk w0 kb [(.int .i64 no), (.slice none 0 0), vI, (.slice none 0 0), (.slice none 0 0), (.slice none 0 0), (.slice none 0 0), (.slice none 0 0), vR, (.slice none 0 0), (.slice none 0 0), (.slice none 0 0), (.slice none 0 0)] 54 := hb
  refine Ret_of (n := 42) Tryd.func69 rfl rfl (Nat.le_of_ble_eq_true rfl) ?_
  refine W_seq ?_
  refine W_region rfl ?_
  refine S_assign rfl rfl rfl (v := (.int .i64 0)) (rfl) ?_
  refine OPS.nil ?_
  change WP _ _ _ _ _ _
  refine W_block ?_
  refine W_loop (fun k σ w => σ 0 = .pointer (some ⟨kb, 0, none⟩) ∧ σ 2 = .int .i64 0 ∧ w0 = w) (0) ⟨rfl, rfl, rfl⟩ ?_
  rintro k σ w ⟨s0, s1, rfl⟩
  refine W_seq ?_
  refine W_seq ?_
  refine W_region rfl ?_
  refine S_move rfl rfl rfl (v := (.int .i64 0)) (s1) ?_
  refine S_move rfl rfl rfl (v := (.pointer (some ⟨kb, 0, none⟩))) (s0) ?_
  refine S_nil rfl rfl rfl (rfl) ?_
  refine S_field ft_assayerlaw01_Book_3 rfl rfl rfl (g := kb) (o := 0) (rfl) (o' := 3) rfl ?_
  refine S_load rfl rfl rfl (rfl) (LD.blk1 ti_Lassayerlaw01_heldNum b0 (v := (.slice none 0 0)) rfl) ?_
  refine S_len Tryd.underlying43 rfl rfl rfl (rfl) (m := 0) (⟨_, _, rfl⟩) ?_
  refine S_bin rfl rfl rfl rfl rfl (rfl) (rfl) (v := .bool false) (by simp [binV]) ?_
  refine OPS.nil ?_
  change WP _ _ _ _ _ _
  refine W_cond rfl (b := false) (rfl) (fun h => (by cases h)) (fun _ => ?_)
  refine W_exit ?_
  change Fin' _ _ _ _ _ _
  exact End0 rfl rfl

set_option maxHeartbeats 400000 in
theorem lookNum_e (w0 : World) (kb : Nat) (no : Int) (vI vR : Value) (hb : Blk w0 kb (bookCs no vI vR) 54) :
    Ret Tryd.prog 81 [(.pointer (some ⟨kb, 0, none⟩))] w0 (fun r w1 => r = .bool true ∧ w0 = w1) := by
  have b0 : Blk w0 kb [(.int .i64 no), (.slice none 0 0), vI, (.slice none 0 0), (.slice none 0 0), (.slice none 0 0), (.slice none 0 0), (.slice none 0 0), vR, (.slice none 0 0), (.slice none 0 0), (.slice none 0 0), (.slice none 0 0)] 54 := hb
  refine Ret_of (n := 64) Tryd.func81 rfl rfl (Nat.le_of_ble_eq_true rfl) ?_
  refine W_seq ?_
  refine W_region rfl ?_
  refine S_assign rfl rfl rfl (v := (.bool false)) (rfl) ?_
  refine OPS.nil ?_
  change WP _ _ _ _ _ _
  refine W_seq ?_
  refine W_seq ?_
  refine W_region rfl ?_
  refine S_assign rfl rfl rfl (v := (.int .i64 0)) (rfl) ?_
  refine OPS.nil ?_
  change WP _ _ _ _ _ _
  refine W_block ?_
  refine W_loop (fun k σ w => σ 0 = .pointer (some ⟨kb, 0, none⟩) ∧ σ 3 = .int .i64 0 ∧ w0 = w) (0) ⟨rfl, rfl, rfl⟩ ?_
  rintro k σ w ⟨s0, s1, rfl⟩
  refine W_seq ?_
  refine W_seq ?_
  refine W_region rfl ?_
  refine S_move rfl rfl rfl (v := (.int .i64 0)) (s1) ?_
  refine S_move rfl rfl rfl (v := (.pointer (some ⟨kb, 0, none⟩))) (s0) ?_
  refine S_nil rfl rfl rfl (rfl) ?_
  refine S_field ft_assayerlaw01_Book_3 rfl rfl rfl (g := kb) (o := 0) (rfl) (o' := 3) rfl ?_
  refine S_load rfl rfl rfl (rfl) (LD.blk1 ti_Lassayerlaw01_heldNum b0 (v := (.slice none 0 0)) rfl) ?_
  refine S_len Tryd.underlying43 rfl rfl rfl (rfl) (m := 0) (⟨_, _, rfl⟩) ?_
  refine S_bin rfl rfl rfl rfl rfl (rfl) (rfl) (v := .bool false) (by simp [binV]) ?_
  refine OPS.nil ?_
  change WP _ _ _ _ _ _
  refine W_cond rfl (b := false) (rfl) (fun h => (by cases h)) (fun _ => ?_)
  refine W_exit ?_
  change WP _ _ _ _ _ _
  refine W_seq ?_
  refine W_region rfl ?_
  refine S_assign rfl rfl rfl (v := (.bool true)) (rfl) ?_
  refine OPS.nil ?_
  change WP _ _ _ _ _ _
  refine W_ret ?_
  change Fin' _ _ _ _ _ _
  refine End1 (n := ⟨64, []⟩) (t := 2) rfl (by decide) (v := (.bool true)) (rfl) ?_
  exact ⟨rfl, rfl⟩

set_option maxHeartbeats 400000 in
theorem fillBool_e (w0 : World) (kb : Nat) (no : Int) (vI vR : Value) (hb : Blk w0 kb (bookCs no vI vR) 54) :
    Ret Tryd.prog 58 [(.pointer (some ⟨kb, 0, none⟩))] w0 (fun r w1 => w0 = w1) := by
  have b0 : Blk w0 kb [(.int .i64 no), (.slice none 0 0), vI, (.slice none 0 0), (.slice none 0 0), (.slice none 0 0), (.slice none 0 0), (.slice none 0 0), vR, (.slice none 0 0), (.slice none 0 0), (.slice none 0 0), (.slice none 0 0)] 54 := hb
  refine Ret_of (n := 35) Tryd.func58 rfl rfl (Nat.le_of_ble_eq_true rfl) ?_
  refine W_seq ?_
  refine W_region rfl ?_
  refine S_assign rfl rfl rfl (v := (.int .i64 0)) (rfl) ?_
  refine OPS.nil ?_
  change WP _ _ _ _ _ _
  refine W_block ?_
  refine W_loop (fun k σ w => σ 0 = .pointer (some ⟨kb, 0, none⟩) ∧ σ 2 = .int .i64 0 ∧ w0 = w) (0) ⟨rfl, rfl, rfl⟩ ?_
  rintro k σ w ⟨s0, s1, rfl⟩
  refine W_seq ?_
  refine W_seq ?_
  refine W_region rfl ?_
  refine S_move rfl rfl rfl (v := (.int .i64 0)) (s1) ?_
  refine S_move rfl rfl rfl (v := (.pointer (some ⟨kb, 0, none⟩))) (s0) ?_
  refine S_nil rfl rfl rfl (rfl) ?_
  refine S_field ft_assayerlaw01_Book_4 rfl rfl rfl (g := kb) (o := 0) (rfl) (o' := 4) rfl ?_
  refine S_load rfl rfl rfl (rfl) (LD.blk1 ti_Lassayerlaw01_heldBool b0 (v := (.slice none 0 0)) rfl) ?_
  refine S_len Tryd.underlying44 rfl rfl rfl (rfl) (m := 0) (⟨_, _, rfl⟩) ?_
  refine S_bin rfl rfl rfl rfl rfl (rfl) (rfl) (v := .bool false) (by simp [binV]) ?_
  refine OPS.nil ?_
  change WP _ _ _ _ _ _
  refine W_cond rfl (b := false) (rfl) (fun h => (by cases h)) (fun _ => ?_)
  refine W_exit ?_
  change Fin' _ _ _ _ _ _
  exact End0 rfl rfl

set_option maxHeartbeats 400000 in
theorem growBool_e (w0 : World) (kb : Nat) (no : Int) (vI vR : Value) (hb : Blk w0 kb (bookCs no vI vR) 54) :
    Ret Tryd.prog 70 [(.pointer (some ⟨kb, 0, none⟩))] w0 (fun r w1 => w0 = w1) := by
  have b0 : Blk w0 kb [(.int .i64 no), (.slice none 0 0), vI, (.slice none 0 0), (.slice none 0 0), (.slice none 0 0), (.slice none 0 0), (.slice none 0 0), vR, (.slice none 0 0), (.slice none 0 0), (.slice none 0 0), (.slice none 0 0)] 54 := hb
  refine Ret_of (n := 42) Tryd.func70 rfl rfl (Nat.le_of_ble_eq_true rfl) ?_
  refine W_seq ?_
  refine W_region rfl ?_
  refine S_assign rfl rfl rfl (v := (.int .i64 0)) (rfl) ?_
  refine OPS.nil ?_
  change WP _ _ _ _ _ _
  refine W_block ?_
  refine W_loop (fun k σ w => σ 0 = .pointer (some ⟨kb, 0, none⟩) ∧ σ 2 = .int .i64 0 ∧ w0 = w) (0) ⟨rfl, rfl, rfl⟩ ?_
  rintro k σ w ⟨s0, s1, rfl⟩
  refine W_seq ?_
  refine W_seq ?_
  refine W_region rfl ?_
  refine S_move rfl rfl rfl (v := (.int .i64 0)) (s1) ?_
  refine S_move rfl rfl rfl (v := (.pointer (some ⟨kb, 0, none⟩))) (s0) ?_
  refine S_nil rfl rfl rfl (rfl) ?_
  refine S_field ft_assayerlaw01_Book_4 rfl rfl rfl (g := kb) (o := 0) (rfl) (o' := 4) rfl ?_
  refine S_load rfl rfl rfl (rfl) (LD.blk1 ti_Lassayerlaw01_heldBool b0 (v := (.slice none 0 0)) rfl) ?_
  refine S_len Tryd.underlying44 rfl rfl rfl (rfl) (m := 0) (⟨_, _, rfl⟩) ?_
  refine S_bin rfl rfl rfl rfl rfl (rfl) (rfl) (v := .bool false) (by simp [binV]) ?_
  refine OPS.nil ?_
  change WP _ _ _ _ _ _
  refine W_cond rfl (b := false) (rfl) (fun h => (by cases h)) (fun _ => ?_)
  refine W_exit ?_
  change Fin' _ _ _ _ _ _
  exact End0 rfl rfl

set_option maxHeartbeats 400000 in
theorem lookBool_e (w0 : World) (kb : Nat) (no : Int) (vI vR : Value) (hb : Blk w0 kb (bookCs no vI vR) 54) :
    Ret Tryd.prog 82 [(.pointer (some ⟨kb, 0, none⟩))] w0 (fun r w1 => r = .bool true ∧ w0 = w1) := by
  have b0 : Blk w0 kb [(.int .i64 no), (.slice none 0 0), vI, (.slice none 0 0), (.slice none 0 0), (.slice none 0 0), (.slice none 0 0), (.slice none 0 0), vR, (.slice none 0 0), (.slice none 0 0), (.slice none 0 0), (.slice none 0 0)] 54 := hb
  refine Ret_of (n := 64) Tryd.func82 rfl rfl (Nat.le_of_ble_eq_true rfl) ?_
  refine W_seq ?_
  refine W_region rfl ?_
  refine S_assign rfl rfl rfl (v := (.bool false)) (rfl) ?_
  refine OPS.nil ?_
  change WP _ _ _ _ _ _
  refine W_seq ?_
  refine W_seq ?_
  refine W_region rfl ?_
  refine S_assign rfl rfl rfl (v := (.int .i64 0)) (rfl) ?_
  refine OPS.nil ?_
  change WP _ _ _ _ _ _
  refine W_block ?_
  refine W_loop (fun k σ w => σ 0 = .pointer (some ⟨kb, 0, none⟩) ∧ σ 3 = .int .i64 0 ∧ w0 = w) (0) ⟨rfl, rfl, rfl⟩ ?_
  rintro k σ w ⟨s0, s1, rfl⟩
  refine W_seq ?_
  refine W_seq ?_
  refine W_region rfl ?_
  refine S_move rfl rfl rfl (v := (.int .i64 0)) (s1) ?_
  refine S_move rfl rfl rfl (v := (.pointer (some ⟨kb, 0, none⟩))) (s0) ?_
  refine S_nil rfl rfl rfl (rfl) ?_
  refine S_field ft_assayerlaw01_Book_4 rfl rfl rfl (g := kb) (o := 0) (rfl) (o' := 4) rfl ?_
  refine S_load rfl rfl rfl (rfl) (LD.blk1 ti_Lassayerlaw01_heldBool b0 (v := (.slice none 0 0)) rfl) ?_
  refine S_len Tryd.underlying44 rfl rfl rfl (rfl) (m := 0) (⟨_, _, rfl⟩) ?_
  refine S_bin rfl rfl rfl rfl rfl (rfl) (rfl) (v := .bool false) (by simp [binV]) ?_
  refine OPS.nil ?_
  change WP _ _ _ _ _ _
  refine W_cond rfl (b := false) (rfl) (fun h => (by cases h)) (fun _ => ?_)
  refine W_exit ?_
  change WP _ _ _ _ _ _
  refine W_seq ?_
  refine W_region rfl ?_
  refine S_assign rfl rfl rfl (v := (.bool true)) (rfl) ?_
  refine OPS.nil ?_
  change WP _ _ _ _ _ _
  refine W_ret ?_
  change Fin' _ _ _ _ _ _
  refine End1 (n := ⟨64, []⟩) (t := 2) rfl (by decide) (v := (.bool true)) (rfl) ?_
  exact ⟨rfl, rfl⟩

set_option maxHeartbeats 400000 in
theorem fillText_e (w0 : World) (kb : Nat) (no : Int) (vI vR : Value) (hb : Blk w0 kb (bookCs no vI vR) 54) :
    Ret Tryd.prog 59 [(.pointer (some ⟨kb, 0, none⟩))] w0 (fun r w1 => w0 = w1) := by
  have b0 : Blk w0 kb [(.int .i64 no), (.slice none 0 0), vI, (.slice none 0 0), (.slice none 0 0), (.slice none 0 0), (.slice none 0 0), (.slice none 0 0), vR, (.slice none 0 0), (.slice none 0 0), (.slice none 0 0), (.slice none 0 0)] 54 := hb
  refine Ret_of (n := 35) Tryd.func59 rfl rfl (Nat.le_of_ble_eq_true rfl) ?_
  refine W_seq ?_
  refine W_region rfl ?_
  refine S_assign rfl rfl rfl (v := (.int .i64 0)) (rfl) ?_
  refine OPS.nil ?_
  change WP _ _ _ _ _ _
  refine W_block ?_
  refine W_loop (fun k σ w => σ 0 = .pointer (some ⟨kb, 0, none⟩) ∧ σ 2 = .int .i64 0 ∧ w0 = w) (0) ⟨rfl, rfl, rfl⟩ ?_
  rintro k σ w ⟨s0, s1, rfl⟩
  refine W_seq ?_
  refine W_seq ?_
  refine W_region rfl ?_
  refine S_move rfl rfl rfl (v := (.int .i64 0)) (s1) ?_
  refine S_move rfl rfl rfl (v := (.pointer (some ⟨kb, 0, none⟩))) (s0) ?_
  refine S_nil rfl rfl rfl (rfl) ?_
  refine S_field ft_assayerlaw01_Book_5 rfl rfl rfl (g := kb) (o := 0) (rfl) (o' := 5) rfl ?_
  refine S_load rfl rfl rfl (rfl) (LD.blk1 ti_Lassayerlaw01_heldText b0 (v := (.slice none 0 0)) rfl) ?_
  refine S_len Tryd.underlying45 rfl rfl rfl (rfl) (m := 0) (⟨_, _, rfl⟩) ?_
  refine S_bin rfl rfl rfl rfl rfl (rfl) (rfl) (v := .bool false) (by simp [binV]) ?_
  refine OPS.nil ?_
  change WP _ _ _ _ _ _
  refine W_cond rfl (b := false) (rfl) (fun h => (by cases h)) (fun _ => ?_)
  refine W_exit ?_
  change Fin' _ _ _ _ _ _
  exact End0 rfl rfl

set_option maxHeartbeats 400000 in
theorem growText_e (w0 : World) (kb : Nat) (no : Int) (vI vR : Value) (hb : Blk w0 kb (bookCs no vI vR) 54) :
    Ret Tryd.prog 71 [(.pointer (some ⟨kb, 0, none⟩))] w0 (fun r w1 => w0 = w1) := by
  have b0 : Blk w0 kb [(.int .i64 no), (.slice none 0 0), vI, (.slice none 0 0), (.slice none 0 0), (.slice none 0 0), (.slice none 0 0), (.slice none 0 0), vR, (.slice none 0 0), (.slice none 0 0), (.slice none 0 0), (.slice none 0 0)] 54 := hb
  refine Ret_of (n := 42) Tryd.func71 rfl rfl (Nat.le_of_ble_eq_true rfl) ?_
  refine W_seq ?_
  refine W_region rfl ?_
  refine S_assign rfl rfl rfl (v := (.int .i64 0)) (rfl) ?_
  refine OPS.nil ?_
  change WP _ _ _ _ _ _
  refine W_block ?_
  refine W_loop (fun k σ w => σ 0 = .pointer (some ⟨kb, 0, none⟩) ∧ σ 2 = .int .i64 0 ∧ w0 = w) (0) ⟨rfl, rfl, rfl⟩ ?_
  rintro k σ w ⟨s0, s1, rfl⟩
  refine W_seq ?_
  refine W_seq ?_
  refine W_region rfl ?_
  refine S_move rfl rfl rfl (v := (.int .i64 0)) (s1) ?_
  refine S_move rfl rfl rfl (v := (.pointer (some ⟨kb, 0, none⟩))) (s0) ?_
  refine S_nil rfl rfl rfl (rfl) ?_
  refine S_field ft_assayerlaw01_Book_5 rfl rfl rfl (g := kb) (o := 0) (rfl) (o' := 5) rfl ?_
  refine S_load rfl rfl rfl (rfl) (LD.blk1 ti_Lassayerlaw01_heldText b0 (v := (.slice none 0 0)) rfl) ?_
  refine S_len Tryd.underlying45 rfl rfl rfl (rfl) (m := 0) (⟨_, _, rfl⟩) ?_
  refine S_bin rfl rfl rfl rfl rfl (rfl) (rfl) (v := .bool false) (by simp [binV]) ?_
  refine OPS.nil ?_
  change WP _ _ _ _ _ _
  refine W_cond rfl (b := false) (rfl) (fun h => (by cases h)) (fun _ => ?_)
  refine W_exit ?_
  change Fin' _ _ _ _ _ _
  exact End0 rfl rfl

set_option maxHeartbeats 400000 in
theorem lookText_e (w0 : World) (kb : Nat) (no : Int) (vI vR : Value) (hb : Blk w0 kb (bookCs no vI vR) 54) :
    Ret Tryd.prog 83 [(.pointer (some ⟨kb, 0, none⟩))] w0 (fun r w1 => r = .bool true ∧ w0 = w1) := by
  have b0 : Blk w0 kb [(.int .i64 no), (.slice none 0 0), vI, (.slice none 0 0), (.slice none 0 0), (.slice none 0 0), (.slice none 0 0), (.slice none 0 0), vR, (.slice none 0 0), (.slice none 0 0), (.slice none 0 0), (.slice none 0 0)] 54 := hb
  refine Ret_of (n := 64) Tryd.func83 rfl rfl (Nat.le_of_ble_eq_true rfl) ?_
  refine W_seq ?_
  refine W_region rfl ?_
  refine S_assign rfl rfl rfl (v := (.bool false)) (rfl) ?_
  refine OPS.nil ?_
  change WP _ _ _ _ _ _
  refine W_seq ?_
  refine W_seq ?_
  refine W_region rfl ?_
  refine S_assign rfl rfl rfl (v := (.int .i64 0)) (rfl) ?_
  refine OPS.nil ?_
  change WP _ _ _ _ _ _
  refine W_block ?_
  refine W_loop (fun k σ w => σ 0 = .pointer (some ⟨kb, 0, none⟩) ∧ σ 3 = .int .i64 0 ∧ w0 = w) (0) ⟨rfl, rfl, rfl⟩ ?_
  rintro k σ w ⟨s0, s1, rfl⟩
  refine W_seq ?_
  refine W_seq ?_
  refine W_region rfl ?_
  refine S_move rfl rfl rfl (v := (.int .i64 0)) (s1) ?_
  refine S_move rfl rfl rfl (v := (.pointer (some ⟨kb, 0, none⟩))) (s0) ?_
  refine S_nil rfl rfl rfl (rfl) ?_
  refine S_field ft_assayerlaw01_Book_5 rfl rfl rfl (g := kb) (o := 0) (rfl) (o' := 5) rfl ?_
  refine S_load rfl rfl rfl (rfl) (LD.blk1 ti_Lassayerlaw01_heldText b0 (v := (.slice none 0 0)) rfl) ?_
  refine S_len Tryd.underlying45 rfl rfl rfl (rfl) (m := 0) (⟨_, _, rfl⟩) ?_
  refine S_bin rfl rfl rfl rfl rfl (rfl) (rfl) (v := .bool false) (by simp [binV]) ?_
  refine OPS.nil ?_
  change WP _ _ _ _ _ _
  refine W_cond rfl (b := false) (rfl) (fun h => (by cases h)) (fun _ => ?_)
  refine W_exit ?_
  change WP _ _ _ _ _ _
  refine W_seq ?_
  refine W_region rfl ?_
  refine S_assign rfl rfl rfl (v := (.bool true)) (rfl) ?_
  refine OPS.nil ?_
  change WP _ _ _ _ _ _
  refine W_ret ?_
  change Fin' _ _ _ _ _ _
  refine End1 (n := ⟨64, []⟩) (t := 2) rfl (by decide) (v := (.bool true)) (rfl) ?_
  exact ⟨rfl, rfl⟩

set_option maxHeartbeats 400000 in
theorem fillToken_e (w0 : World) (kb : Nat) (no : Int) (vI vR : Value) (hb : Blk w0 kb (bookCs no vI vR) 54) :
    Ret Tryd.prog 60 [(.pointer (some ⟨kb, 0, none⟩))] w0 (fun r w1 => w0 = w1) := by
  have b0 : Blk w0 kb [(.int .i64 no), (.slice none 0 0), vI, (.slice none 0 0), (.slice none 0 0), (.slice none 0 0), (.slice none 0 0), (.slice none 0 0), vR, (.slice none 0 0), (.slice none 0 0), (.slice none 0 0), (.slice none 0 0)] 54 := hb
  refine Ret_of (n := 35) Tryd.func60 rfl rfl (Nat.le_of_ble_eq_true rfl) ?_
  refine W_seq ?_
  refine W_region rfl ?_
  refine S_assign rfl rfl rfl (v := (.int .i64 0)) (rfl) ?_
  refine OPS.nil ?_
  change WP _ _ _ _ _ _
  refine W_block ?_
  refine W_loop (fun k σ w => σ 0 = .pointer (some ⟨kb, 0, none⟩) ∧ σ 2 = .int .i64 0 ∧ w0 = w) (0) ⟨rfl, rfl, rfl⟩ ?_
  rintro k σ w ⟨s0, s1, rfl⟩
  refine W_seq ?_
  refine W_seq ?_
  refine W_region rfl ?_
  refine S_move rfl rfl rfl (v := (.int .i64 0)) (s1) ?_
  refine S_move rfl rfl rfl (v := (.pointer (some ⟨kb, 0, none⟩))) (s0) ?_
  refine S_nil rfl rfl rfl (rfl) ?_
  refine S_field ft_assayerlaw01_Book_6 rfl rfl rfl (g := kb) (o := 0) (rfl) (o' := 6) rfl ?_
  refine S_load rfl rfl rfl (rfl) (LD.blk1 ti_Lassayerlaw01_heldToken b0 (v := (.slice none 0 0)) rfl) ?_
  refine S_len Tryd.underlying46 rfl rfl rfl (rfl) (m := 0) (⟨_, _, rfl⟩) ?_
  refine S_bin rfl rfl rfl rfl rfl (rfl) (rfl) (v := .bool false) (by simp [binV]) ?_
  refine OPS.nil ?_
  change WP _ _ _ _ _ _
  refine W_cond rfl (b := false) (rfl) (fun h => (by cases h)) (fun _ => ?_)
  refine W_exit ?_
  change Fin' _ _ _ _ _ _
  exact End0 rfl rfl

set_option maxHeartbeats 400000 in
theorem growToken_e (w0 : World) (kb : Nat) (no : Int) (vI vR : Value) (hb : Blk w0 kb (bookCs no vI vR) 54) :
    Ret Tryd.prog 72 [(.pointer (some ⟨kb, 0, none⟩))] w0 (fun r w1 => w0 = w1) := by
  have b0 : Blk w0 kb [(.int .i64 no), (.slice none 0 0), vI, (.slice none 0 0), (.slice none 0 0), (.slice none 0 0), (.slice none 0 0), (.slice none 0 0), vR, (.slice none 0 0), (.slice none 0 0), (.slice none 0 0), (.slice none 0 0)] 54 := hb
  refine Ret_of (n := 42) Tryd.func72 rfl rfl (Nat.le_of_ble_eq_true rfl) ?_
  refine W_seq ?_
  refine W_region rfl ?_
  refine S_assign rfl rfl rfl (v := (.int .i64 0)) (rfl) ?_
  refine OPS.nil ?_
  change WP _ _ _ _ _ _
  refine W_block ?_
  refine W_loop (fun k σ w => σ 0 = .pointer (some ⟨kb, 0, none⟩) ∧ σ 2 = .int .i64 0 ∧ w0 = w) (0) ⟨rfl, rfl, rfl⟩ ?_
  rintro k σ w ⟨s0, s1, rfl⟩
  refine W_seq ?_
  refine W_seq ?_
  refine W_region rfl ?_
  refine S_move rfl rfl rfl (v := (.int .i64 0)) (s1) ?_
  refine S_move rfl rfl rfl (v := (.pointer (some ⟨kb, 0, none⟩))) (s0) ?_
  refine S_nil rfl rfl rfl (rfl) ?_
  refine S_field ft_assayerlaw01_Book_6 rfl rfl rfl (g := kb) (o := 0) (rfl) (o' := 6) rfl ?_
  refine S_load rfl rfl rfl (rfl) (LD.blk1 ti_Lassayerlaw01_heldToken b0 (v := (.slice none 0 0)) rfl) ?_
  refine S_len Tryd.underlying46 rfl rfl rfl (rfl) (m := 0) (⟨_, _, rfl⟩) ?_
  refine S_bin rfl rfl rfl rfl rfl (rfl) (rfl) (v := .bool false) (by simp [binV]) ?_
  refine OPS.nil ?_
  change WP _ _ _ _ _ _
  refine W_cond rfl (b := false) (rfl) (fun h => (by cases h)) (fun _ => ?_)
  refine W_exit ?_
  change Fin' _ _ _ _ _ _
  exact End0 rfl rfl

set_option maxHeartbeats 400000 in
theorem lookToken_e (w0 : World) (kb : Nat) (no : Int) (vI vR : Value) (hb : Blk w0 kb (bookCs no vI vR) 54) :
    Ret Tryd.prog 84 [(.pointer (some ⟨kb, 0, none⟩))] w0 (fun r w1 => r = .bool true ∧ w0 = w1) := by
  have b0 : Blk w0 kb [(.int .i64 no), (.slice none 0 0), vI, (.slice none 0 0), (.slice none 0 0), (.slice none 0 0), (.slice none 0 0), (.slice none 0 0), vR, (.slice none 0 0), (.slice none 0 0), (.slice none 0 0), (.slice none 0 0)] 54 := hb
  refine Ret_of (n := 64) Tryd.func84 rfl rfl (Nat.le_of_ble_eq_true rfl) ?_
  refine W_seq ?_
  refine W_region rfl ?_
  refine S_assign rfl rfl rfl (v := (.bool false)) (rfl) ?_
  refine OPS.nil ?_
  change WP _ _ _ _ _ _
  refine W_seq ?_
  refine W_seq ?_
  refine W_region rfl ?_
  refine S_assign rfl rfl rfl (v := (.int .i64 0)) (rfl) ?_
  refine OPS.nil ?_
  change WP _ _ _ _ _ _
  refine W_block ?_
  refine W_loop (fun k σ w => σ 0 = .pointer (some ⟨kb, 0, none⟩) ∧ σ 3 = .int .i64 0 ∧ w0 = w) (0) ⟨rfl, rfl, rfl⟩ ?_
  rintro k σ w ⟨s0, s1, rfl⟩
  refine W_seq ?_
  refine W_seq ?_
  refine W_region rfl ?_
  refine S_move rfl rfl rfl (v := (.int .i64 0)) (s1) ?_
  refine S_move rfl rfl rfl (v := (.pointer (some ⟨kb, 0, none⟩))) (s0) ?_
  refine S_nil rfl rfl rfl (rfl) ?_
  refine S_field ft_assayerlaw01_Book_6 rfl rfl rfl (g := kb) (o := 0) (rfl) (o' := 6) rfl ?_
  refine S_load rfl rfl rfl (rfl) (LD.blk1 ti_Lassayerlaw01_heldToken b0 (v := (.slice none 0 0)) rfl) ?_
  refine S_len Tryd.underlying46 rfl rfl rfl (rfl) (m := 0) (⟨_, _, rfl⟩) ?_
  refine S_bin rfl rfl rfl rfl rfl (rfl) (rfl) (v := .bool false) (by simp [binV]) ?_
  refine OPS.nil ?_
  change WP _ _ _ _ _ _
  refine W_cond rfl (b := false) (rfl) (fun h => (by cases h)) (fun _ => ?_)
  refine W_exit ?_
  change WP _ _ _ _ _ _
  refine W_seq ?_
  refine W_region rfl ?_
  refine S_assign rfl rfl rfl (v := (.bool true)) (rfl) ?_
  refine OPS.nil ?_
  change WP _ _ _ _ _ _
  refine W_ret ?_
  change Fin' _ _ _ _ _ _
  refine End1 (n := ⟨64, []⟩) (t := 2) rfl (by decide) (v := (.bool true)) (rfl) ?_
  exact ⟨rfl, rfl⟩

set_option maxHeartbeats 400000 in
theorem fillTenant_e (w0 : World) (kb : Nat) (no : Int) (vI vR : Value) (hb : Blk w0 kb (bookCs no vI vR) 54) :
    Ret Tryd.prog 61 [(.pointer (some ⟨kb, 0, none⟩))] w0 (fun r w1 => w0 = w1) := by
  have b0 : Blk w0 kb [(.int .i64 no), (.slice none 0 0), vI, (.slice none 0 0), (.slice none 0 0), (.slice none 0 0), (.slice none 0 0), (.slice none 0 0), vR, (.slice none 0 0), (.slice none 0 0), (.slice none 0 0), (.slice none 0 0)] 54 := hb
  refine Ret_of (n := 35) Tryd.func61 rfl rfl (Nat.le_of_ble_eq_true rfl) ?_
  refine W_seq ?_
  refine W_region rfl ?_
  refine S_assign rfl rfl rfl (v := (.int .i64 0)) (rfl) ?_
  refine OPS.nil ?_
  change WP _ _ _ _ _ _
  refine W_block ?_
  refine W_loop (fun k σ w => σ 0 = .pointer (some ⟨kb, 0, none⟩) ∧ σ 2 = .int .i64 0 ∧ w0 = w) (0) ⟨rfl, rfl, rfl⟩ ?_
  rintro k σ w ⟨s0, s1, rfl⟩
  refine W_seq ?_
  refine W_seq ?_
  refine W_region rfl ?_
  refine S_move rfl rfl rfl (v := (.int .i64 0)) (s1) ?_
  refine S_move rfl rfl rfl (v := (.pointer (some ⟨kb, 0, none⟩))) (s0) ?_
  refine S_nil rfl rfl rfl (rfl) ?_
  refine S_field ft_assayerlaw01_Book_7 rfl rfl rfl (g := kb) (o := 0) (rfl) (o' := 7) rfl ?_
  refine S_load rfl rfl rfl (rfl) (LD.blk1 ti_Lassayerlaw01_heldTenant b0 (v := (.slice none 0 0)) rfl) ?_
  refine S_len Tryd.underlying47 rfl rfl rfl (rfl) (m := 0) (⟨_, _, rfl⟩) ?_
  refine S_bin rfl rfl rfl rfl rfl (rfl) (rfl) (v := .bool false) (by simp [binV]) ?_
  refine OPS.nil ?_
  change WP _ _ _ _ _ _
  refine W_cond rfl (b := false) (rfl) (fun h => (by cases h)) (fun _ => ?_)
  refine W_exit ?_
  change Fin' _ _ _ _ _ _
  exact End0 rfl rfl

set_option maxHeartbeats 400000 in
theorem growTenant_e (w0 : World) (kb : Nat) (no : Int) (vI vR : Value) (hb : Blk w0 kb (bookCs no vI vR) 54) :
    Ret Tryd.prog 73 [(.pointer (some ⟨kb, 0, none⟩))] w0 (fun r w1 => w0 = w1) := by
  have b0 : Blk w0 kb [(.int .i64 no), (.slice none 0 0), vI, (.slice none 0 0), (.slice none 0 0), (.slice none 0 0), (.slice none 0 0), (.slice none 0 0), vR, (.slice none 0 0), (.slice none 0 0), (.slice none 0 0), (.slice none 0 0)] 54 := hb
  refine Ret_of (n := 42) Tryd.func73 rfl rfl (Nat.le_of_ble_eq_true rfl) ?_
  refine W_seq ?_
  refine W_region rfl ?_
  refine S_assign rfl rfl rfl (v := (.int .i64 0)) (rfl) ?_
  refine OPS.nil ?_
  change WP _ _ _ _ _ _
  refine W_block ?_
  refine W_loop (fun k σ w => σ 0 = .pointer (some ⟨kb, 0, none⟩) ∧ σ 2 = .int .i64 0 ∧ w0 = w) (0) ⟨rfl, rfl, rfl⟩ ?_
  rintro k σ w ⟨s0, s1, rfl⟩
  refine W_seq ?_
  refine W_seq ?_
  refine W_region rfl ?_
  refine S_move rfl rfl rfl (v := (.int .i64 0)) (s1) ?_
  refine S_move rfl rfl rfl (v := (.pointer (some ⟨kb, 0, none⟩))) (s0) ?_
  refine S_nil rfl rfl rfl (rfl) ?_
  refine S_field ft_assayerlaw01_Book_7 rfl rfl rfl (g := kb) (o := 0) (rfl) (o' := 7) rfl ?_
  refine S_load rfl rfl rfl (rfl) (LD.blk1 ti_Lassayerlaw01_heldTenant b0 (v := (.slice none 0 0)) rfl) ?_
  refine S_len Tryd.underlying47 rfl rfl rfl (rfl) (m := 0) (⟨_, _, rfl⟩) ?_
  refine S_bin rfl rfl rfl rfl rfl (rfl) (rfl) (v := .bool false) (by simp [binV]) ?_
  refine OPS.nil ?_
  change WP _ _ _ _ _ _
  refine W_cond rfl (b := false) (rfl) (fun h => (by cases h)) (fun _ => ?_)
  refine W_exit ?_
  change Fin' _ _ _ _ _ _
  exact End0 rfl rfl

set_option maxHeartbeats 400000 in
theorem lookTenant_e (w0 : World) (kb : Nat) (no : Int) (vI vR : Value) (hb : Blk w0 kb (bookCs no vI vR) 54) :
    Ret Tryd.prog 85 [(.pointer (some ⟨kb, 0, none⟩))] w0 (fun r w1 => r = .bool true ∧ w0 = w1) := by
  have b0 : Blk w0 kb [(.int .i64 no), (.slice none 0 0), vI, (.slice none 0 0), (.slice none 0 0), (.slice none 0 0), (.slice none 0 0), (.slice none 0 0), vR, (.slice none 0 0), (.slice none 0 0), (.slice none 0 0), (.slice none 0 0)] 54 := hb
  refine Ret_of (n := 64) Tryd.func85 rfl rfl (Nat.le_of_ble_eq_true rfl) ?_
  refine W_seq ?_
  refine W_region rfl ?_
  refine S_assign rfl rfl rfl (v := (.bool false)) (rfl) ?_
  refine OPS.nil ?_
  change WP _ _ _ _ _ _
  refine W_seq ?_
  refine W_seq ?_
  refine W_region rfl ?_
  refine S_assign rfl rfl rfl (v := (.int .i64 0)) (rfl) ?_
  refine OPS.nil ?_
  change WP _ _ _ _ _ _
  refine W_block ?_
  refine W_loop (fun k σ w => σ 0 = .pointer (some ⟨kb, 0, none⟩) ∧ σ 3 = .int .i64 0 ∧ w0 = w) (0) ⟨rfl, rfl, rfl⟩ ?_
  rintro k σ w ⟨s0, s1, rfl⟩
  refine W_seq ?_
  refine W_seq ?_
  refine W_region rfl ?_
  refine S_move rfl rfl rfl (v := (.int .i64 0)) (s1) ?_
  refine S_move rfl rfl rfl (v := (.pointer (some ⟨kb, 0, none⟩))) (s0) ?_
  refine S_nil rfl rfl rfl (rfl) ?_
  refine S_field ft_assayerlaw01_Book_7 rfl rfl rfl (g := kb) (o := 0) (rfl) (o' := 7) rfl ?_
  refine S_load rfl rfl rfl (rfl) (LD.blk1 ti_Lassayerlaw01_heldTenant b0 (v := (.slice none 0 0)) rfl) ?_
  refine S_len Tryd.underlying47 rfl rfl rfl (rfl) (m := 0) (⟨_, _, rfl⟩) ?_
  refine S_bin rfl rfl rfl rfl rfl (rfl) (rfl) (v := .bool false) (by simp [binV]) ?_
  refine OPS.nil ?_
  change WP _ _ _ _ _ _
  refine W_cond rfl (b := false) (rfl) (fun h => (by cases h)) (fun _ => ?_)
  refine W_exit ?_
  change WP _ _ _ _ _ _
  refine W_seq ?_
  refine W_region rfl ?_
  refine S_assign rfl rfl rfl (v := (.bool true)) (rfl) ?_
  refine OPS.nil ?_
  change WP _ _ _ _ _ _
  refine W_ret ?_
  change Fin' _ _ _ _ _ _
  refine End1 (n := ⟨64, []⟩) (t := 2) rfl (by decide) (v := (.bool true)) (rfl) ?_
  exact ⟨rfl, rfl⟩

set_option maxHeartbeats 400000 in
theorem fillVar_e (w0 : World) (kb : Nat) (no : Int) (vI vR : Value) (hb : Blk w0 kb (bookCs no vI vR) 54) :
    Ret Tryd.prog 63 [(.pointer (some ⟨kb, 0, none⟩))] w0 (fun r w1 => w0 = w1) := by
  have b0 : Blk w0 kb [(.int .i64 no), (.slice none 0 0), vI, (.slice none 0 0), (.slice none 0 0), (.slice none 0 0), (.slice none 0 0), (.slice none 0 0), vR, (.slice none 0 0), (.slice none 0 0), (.slice none 0 0), (.slice none 0 0)] 54 := hb
  refine Ret_of (n := 35) Tryd.func63 rfl rfl (Nat.le_of_ble_eq_true rfl) ?_
  refine W_seq ?_
  refine W_region rfl ?_
  refine S_assign rfl rfl rfl (v := (.int .i64 0)) (rfl) ?_
  refine OPS.nil ?_
  change WP _ _ _ _ _ _
  refine W_block ?_
  refine W_loop (fun k σ w => σ 0 = .pointer (some ⟨kb, 0, none⟩) ∧ σ 2 = .int .i64 0 ∧ w0 = w) (0) ⟨rfl, rfl, rfl⟩ ?_
  rintro k σ w ⟨s0, s1, rfl⟩
  refine W_seq ?_
  refine W_seq ?_
  refine W_region rfl ?_
  refine S_move rfl rfl rfl (v := (.int .i64 0)) (s1) ?_
  refine S_move rfl rfl rfl (v := (.pointer (some ⟨kb, 0, none⟩))) (s0) ?_
  refine S_nil rfl rfl rfl (rfl) ?_
  refine S_field ft_assayerlaw01_Book_9 rfl rfl rfl (g := kb) (o := 0) (rfl) (o' := 9) rfl ?_
  refine S_load rfl rfl rfl (rfl) (LD.blk1 ti_Lassayerlaw01_heldVar b0 (v := (.slice none 0 0)) rfl) ?_
  refine S_len Tryd.underlying49 rfl rfl rfl (rfl) (m := 0) (⟨_, _, rfl⟩) ?_
  refine S_bin rfl rfl rfl rfl rfl (rfl) (rfl) (v := .bool false) (by simp [binV]) ?_
  refine OPS.nil ?_
  change WP _ _ _ _ _ _
  refine W_cond rfl (b := false) (rfl) (fun h => (by cases h)) (fun _ => ?_)
  refine W_exit ?_
  change Fin' _ _ _ _ _ _
  exact End0 rfl rfl

set_option maxHeartbeats 400000 in
theorem growVar_e (w0 : World) (kb : Nat) (no : Int) (vI vR : Value) (hb : Blk w0 kb (bookCs no vI vR) 54) :
    Ret Tryd.prog 75 [(.pointer (some ⟨kb, 0, none⟩))] w0 (fun r w1 => w0 = w1) := by
  have b0 : Blk w0 kb [(.int .i64 no), (.slice none 0 0), vI, (.slice none 0 0), (.slice none 0 0), (.slice none 0 0), (.slice none 0 0), (.slice none 0 0), vR, (.slice none 0 0), (.slice none 0 0), (.slice none 0 0), (.slice none 0 0)] 54 := hb
  refine Ret_of (n := 42) Tryd.func75 rfl rfl (Nat.le_of_ble_eq_true rfl) ?_
  refine W_seq ?_
  refine W_region rfl ?_
  refine S_assign rfl rfl rfl (v := (.int .i64 0)) (rfl) ?_
  refine OPS.nil ?_
  change WP _ _ _ _ _ _
  refine W_block ?_
  refine W_loop (fun k σ w => σ 0 = .pointer (some ⟨kb, 0, none⟩) ∧ σ 2 = .int .i64 0 ∧ w0 = w) (0) ⟨rfl, rfl, rfl⟩ ?_
  rintro k σ w ⟨s0, s1, rfl⟩
  refine W_seq ?_
  refine W_seq ?_
  refine W_region rfl ?_
  refine S_move rfl rfl rfl (v := (.int .i64 0)) (s1) ?_
  refine S_move rfl rfl rfl (v := (.pointer (some ⟨kb, 0, none⟩))) (s0) ?_
  refine S_nil rfl rfl rfl (rfl) ?_
  refine S_field ft_assayerlaw01_Book_9 rfl rfl rfl (g := kb) (o := 0) (rfl) (o' := 9) rfl ?_
  refine S_load rfl rfl rfl (rfl) (LD.blk1 ti_Lassayerlaw01_heldVar b0 (v := (.slice none 0 0)) rfl) ?_
  refine S_len Tryd.underlying49 rfl rfl rfl (rfl) (m := 0) (⟨_, _, rfl⟩) ?_
  refine S_bin rfl rfl rfl rfl rfl (rfl) (rfl) (v := .bool false) (by simp [binV]) ?_
  refine OPS.nil ?_
  change WP _ _ _ _ _ _
  refine W_cond rfl (b := false) (rfl) (fun h => (by cases h)) (fun _ => ?_)
  refine W_exit ?_
  change Fin' _ _ _ _ _ _
  exact End0 rfl rfl

set_option maxHeartbeats 400000 in
theorem lookVar_e (w0 : World) (kb : Nat) (no : Int) (vI vR : Value) (hb : Blk w0 kb (bookCs no vI vR) 54) :
    Ret Tryd.prog 87 [(.pointer (some ⟨kb, 0, none⟩))] w0 (fun r w1 => r = .bool true ∧ w0 = w1) := by
  have b0 : Blk w0 kb [(.int .i64 no), (.slice none 0 0), vI, (.slice none 0 0), (.slice none 0 0), (.slice none 0 0), (.slice none 0 0), (.slice none 0 0), vR, (.slice none 0 0), (.slice none 0 0), (.slice none 0 0), (.slice none 0 0)] 54 := hb
  refine Ret_of (n := 64) Tryd.func87 rfl rfl (Nat.le_of_ble_eq_true rfl) ?_
  refine W_seq ?_
  refine W_region rfl ?_
  refine S_assign rfl rfl rfl (v := (.bool false)) (rfl) ?_
  refine OPS.nil ?_
  change WP _ _ _ _ _ _
  refine W_seq ?_
  refine W_seq ?_
  refine W_region rfl ?_
  refine S_assign rfl rfl rfl (v := (.int .i64 0)) (rfl) ?_
  refine OPS.nil ?_
  change WP _ _ _ _ _ _
  refine W_block ?_
  refine W_loop (fun k σ w => σ 0 = .pointer (some ⟨kb, 0, none⟩) ∧ σ 3 = .int .i64 0 ∧ w0 = w) (0) ⟨rfl, rfl, rfl⟩ ?_
  rintro k σ w ⟨s0, s1, rfl⟩
  refine W_seq ?_
  refine W_seq ?_
  refine W_region rfl ?_
  refine S_move rfl rfl rfl (v := (.int .i64 0)) (s1) ?_
  refine S_move rfl rfl rfl (v := (.pointer (some ⟨kb, 0, none⟩))) (s0) ?_
  refine S_nil rfl rfl rfl (rfl) ?_
  refine S_field ft_assayerlaw01_Book_9 rfl rfl rfl (g := kb) (o := 0) (rfl) (o' := 9) rfl ?_
  refine S_load rfl rfl rfl (rfl) (LD.blk1 ti_Lassayerlaw01_heldVar b0 (v := (.slice none 0 0)) rfl) ?_
  refine S_len Tryd.underlying49 rfl rfl rfl (rfl) (m := 0) (⟨_, _, rfl⟩) ?_
  refine S_bin rfl rfl rfl rfl rfl (rfl) (rfl) (v := .bool false) (by simp [binV]) ?_
  refine OPS.nil ?_
  change WP _ _ _ _ _ _
  refine W_cond rfl (b := false) (rfl) (fun h => (by cases h)) (fun _ => ?_)
  refine W_exit ?_
  change WP _ _ _ _ _ _
  refine W_seq ?_
  refine W_region rfl ?_
  refine S_assign rfl rfl rfl (v := (.bool true)) (rfl) ?_
  refine OPS.nil ?_
  change WP _ _ _ _ _ _
  refine W_ret ?_
  change Fin' _ _ _ _ _ _
  refine End1 (n := ⟨64, []⟩) (t := 2) rfl (by decide) (v := (.bool true)) (rfl) ?_
  exact ⟨rfl, rfl⟩

set_option maxHeartbeats 400000 in
theorem fillRow_e (w0 : World) (kb : Nat) (no : Int) (vI vR : Value) (hb : Blk w0 kb (bookCs no vI vR) 54) :
    Ret Tryd.prog 64 [(.pointer (some ⟨kb, 0, none⟩))] w0 (fun r w1 => w0 = w1) := by
  have b0 : Blk w0 kb [(.int .i64 no), (.slice none 0 0), vI, (.slice none 0 0), (.slice none 0 0), (.slice none 0 0), (.slice none 0 0), (.slice none 0 0), vR, (.slice none 0 0), (.slice none 0 0), (.slice none 0 0), (.slice none 0 0)] 54 := hb
  refine Ret_of (n := 35) Tryd.func64 rfl rfl (Nat.le_of_ble_eq_true rfl) ?_
  refine W_seq ?_
  refine W_region rfl ?_
  refine S_assign rfl rfl rfl (v := (.int .i64 0)) (rfl) ?_
  refine OPS.nil ?_
  change WP _ _ _ _ _ _
  refine W_block ?_
  refine W_loop (fun k σ w => σ 0 = .pointer (some ⟨kb, 0, none⟩) ∧ σ 2 = .int .i64 0 ∧ w0 = w) (0) ⟨rfl, rfl, rfl⟩ ?_
  rintro k σ w ⟨s0, s1, rfl⟩
  refine W_seq ?_
  refine W_seq ?_
  refine W_region rfl ?_
  refine S_move rfl rfl rfl (v := (.int .i64 0)) (s1) ?_
  refine S_move rfl rfl rfl (v := (.pointer (some ⟨kb, 0, none⟩))) (s0) ?_
  refine S_nil rfl rfl rfl (rfl) ?_
  refine S_field ft_assayerlaw01_Book_10 rfl rfl rfl (g := kb) (o := 0) (rfl) (o' := 10) rfl ?_
  refine S_load rfl rfl rfl (rfl) (LD.blk1 ti_Lassayerlaw01_heldRow b0 (v := (.slice none 0 0)) rfl) ?_
  refine S_len Tryd.underlying50 rfl rfl rfl (rfl) (m := 0) (⟨_, _, rfl⟩) ?_
  refine S_bin rfl rfl rfl rfl rfl (rfl) (rfl) (v := .bool false) (by simp [binV]) ?_
  refine OPS.nil ?_
  change WP _ _ _ _ _ _
  refine W_cond rfl (b := false) (rfl) (fun h => (by cases h)) (fun _ => ?_)
  refine W_exit ?_
  change Fin' _ _ _ _ _ _
  exact End0 rfl rfl

set_option maxHeartbeats 400000 in
theorem growRow_e (w0 : World) (kb : Nat) (no : Int) (vI vR : Value) (hb : Blk w0 kb (bookCs no vI vR) 54) :
    Ret Tryd.prog 76 [(.pointer (some ⟨kb, 0, none⟩))] w0 (fun r w1 => w0 = w1) := by
  have b0 : Blk w0 kb [(.int .i64 no), (.slice none 0 0), vI, (.slice none 0 0), (.slice none 0 0), (.slice none 0 0), (.slice none 0 0), (.slice none 0 0), vR, (.slice none 0 0), (.slice none 0 0), (.slice none 0 0), (.slice none 0 0)] 54 := hb
  refine Ret_of (n := 42) Tryd.func76 rfl rfl (Nat.le_of_ble_eq_true rfl) ?_
  refine W_seq ?_
  refine W_region rfl ?_
  refine S_assign rfl rfl rfl (v := (.int .i64 0)) (rfl) ?_
  refine OPS.nil ?_
  change WP _ _ _ _ _ _
  refine W_block ?_
  refine W_loop (fun k σ w => σ 0 = .pointer (some ⟨kb, 0, none⟩) ∧ σ 2 = .int .i64 0 ∧ w0 = w) (0) ⟨rfl, rfl, rfl⟩ ?_
  rintro k σ w ⟨s0, s1, rfl⟩
  refine W_seq ?_
  refine W_seq ?_
  refine W_region rfl ?_
  refine S_move rfl rfl rfl (v := (.int .i64 0)) (s1) ?_
  refine S_move rfl rfl rfl (v := (.pointer (some ⟨kb, 0, none⟩))) (s0) ?_
  refine S_nil rfl rfl rfl (rfl) ?_
  refine S_field ft_assayerlaw01_Book_10 rfl rfl rfl (g := kb) (o := 0) (rfl) (o' := 10) rfl ?_
  refine S_load rfl rfl rfl (rfl) (LD.blk1 ti_Lassayerlaw01_heldRow b0 (v := (.slice none 0 0)) rfl) ?_
  refine S_len Tryd.underlying50 rfl rfl rfl (rfl) (m := 0) (⟨_, _, rfl⟩) ?_
  refine S_bin rfl rfl rfl rfl rfl (rfl) (rfl) (v := .bool false) (by simp [binV]) ?_
  refine OPS.nil ?_
  change WP _ _ _ _ _ _
  refine W_cond rfl (b := false) (rfl) (fun h => (by cases h)) (fun _ => ?_)
  refine W_exit ?_
  change Fin' _ _ _ _ _ _
  exact End0 rfl rfl

set_option maxHeartbeats 400000 in
theorem lookRow_e (w0 : World) (kb : Nat) (no : Int) (vI vR : Value) (hb : Blk w0 kb (bookCs no vI vR) 54) :
    Ret Tryd.prog 88 [(.pointer (some ⟨kb, 0, none⟩))] w0 (fun r w1 => r = .bool true ∧ w0 = w1) := by
  have b0 : Blk w0 kb [(.int .i64 no), (.slice none 0 0), vI, (.slice none 0 0), (.slice none 0 0), (.slice none 0 0), (.slice none 0 0), (.slice none 0 0), vR, (.slice none 0 0), (.slice none 0 0), (.slice none 0 0), (.slice none 0 0)] 54 := hb
  refine Ret_of (n := 64) Tryd.func88 rfl rfl (Nat.le_of_ble_eq_true rfl) ?_
  refine W_seq ?_
  refine W_region rfl ?_
  refine S_assign rfl rfl rfl (v := (.bool false)) (rfl) ?_
  refine OPS.nil ?_
  change WP _ _ _ _ _ _
  refine W_seq ?_
  refine W_seq ?_
  refine W_region rfl ?_
  refine S_assign rfl rfl rfl (v := (.int .i64 0)) (rfl) ?_
  refine OPS.nil ?_
  change WP _ _ _ _ _ _
  refine W_block ?_
  refine W_loop (fun k σ w => σ 0 = .pointer (some ⟨kb, 0, none⟩) ∧ σ 3 = .int .i64 0 ∧ w0 = w) (0) ⟨rfl, rfl, rfl⟩ ?_
  rintro k σ w ⟨s0, s1, rfl⟩
  refine W_seq ?_
  refine W_seq ?_
  refine W_region rfl ?_
  refine S_move rfl rfl rfl (v := (.int .i64 0)) (s1) ?_
  refine S_move rfl rfl rfl (v := (.pointer (some ⟨kb, 0, none⟩))) (s0) ?_
  refine S_nil rfl rfl rfl (rfl) ?_
  refine S_field ft_assayerlaw01_Book_10 rfl rfl rfl (g := kb) (o := 0) (rfl) (o' := 10) rfl ?_
  refine S_load rfl rfl rfl (rfl) (LD.blk1 ti_Lassayerlaw01_heldRow b0 (v := (.slice none 0 0)) rfl) ?_
  refine S_len Tryd.underlying50 rfl rfl rfl (rfl) (m := 0) (⟨_, _, rfl⟩) ?_
  refine S_bin rfl rfl rfl rfl rfl (rfl) (rfl) (v := .bool false) (by simp [binV]) ?_
  refine OPS.nil ?_
  change WP _ _ _ _ _ _
  refine W_cond rfl (b := false) (rfl) (fun h => (by cases h)) (fun _ => ?_)
  refine W_exit ?_
  change WP _ _ _ _ _ _
  refine W_seq ?_
  refine W_region rfl ?_
  refine S_assign rfl rfl rfl (v := (.bool true)) (rfl) ?_
  refine OPS.nil ?_
  change WP _ _ _ _ _ _
  refine W_ret ?_
  change Fin' _ _ _ _ _ _
  refine End1 (n := ⟨64, []⟩) (t := 2) rfl (by decide) (v := (.bool true)) (rfl) ?_
  exact ⟨rfl, rfl⟩

set_option maxHeartbeats 400000 in
theorem fillNode_e (w0 : World) (kb : Nat) (no : Int) (vI vR : Value) (hb : Blk w0 kb (bookCs no vI vR) 54) :
    Ret Tryd.prog 65 [(.pointer (some ⟨kb, 0, none⟩))] w0 (fun r w1 => w0 = w1) := by
  have b0 : Blk w0 kb [(.int .i64 no), (.slice none 0 0), vI, (.slice none 0 0), (.slice none 0 0), (.slice none 0 0), (.slice none 0 0), (.slice none 0 0), vR, (.slice none 0 0), (.slice none 0 0), (.slice none 0 0), (.slice none 0 0)] 54 := hb
  refine Ret_of (n := 35) Tryd.func65 rfl rfl (Nat.le_of_ble_eq_true rfl) ?_
  refine W_seq ?_
  refine W_region rfl ?_
  refine S_assign rfl rfl rfl (v := (.int .i64 0)) (rfl) ?_
  refine OPS.nil ?_
  change WP _ _ _ _ _ _
  refine W_block ?_
  refine W_loop (fun k σ w => σ 0 = .pointer (some ⟨kb, 0, none⟩) ∧ σ 2 = .int .i64 0 ∧ w0 = w) (0) ⟨rfl, rfl, rfl⟩ ?_
  rintro k σ w ⟨s0, s1, rfl⟩
  refine W_seq ?_
  refine W_seq ?_
  refine W_region rfl ?_
  refine S_move rfl rfl rfl (v := (.int .i64 0)) (s1) ?_
  refine S_move rfl rfl rfl (v := (.pointer (some ⟨kb, 0, none⟩))) (s0) ?_
  refine S_nil rfl rfl rfl (rfl) ?_
  refine S_field ft_assayerlaw01_Book_11 rfl rfl rfl (g := kb) (o := 0) (rfl) (o' := 11) rfl ?_
  refine S_load rfl rfl rfl (rfl) (LD.blk1 ti_Lassayerlaw01_heldNode b0 (v := (.slice none 0 0)) rfl) ?_
  refine S_len Tryd.underlying51 rfl rfl rfl (rfl) (m := 0) (⟨_, _, rfl⟩) ?_
  refine S_bin rfl rfl rfl rfl rfl (rfl) (rfl) (v := .bool false) (by simp [binV]) ?_
  refine OPS.nil ?_
  change WP _ _ _ _ _ _
  refine W_cond rfl (b := false) (rfl) (fun h => (by cases h)) (fun _ => ?_)
  refine W_exit ?_
  change Fin' _ _ _ _ _ _
  exact End0 rfl rfl

set_option maxHeartbeats 400000 in
theorem growNode_e (w0 : World) (kb : Nat) (no : Int) (vI vR : Value) (hb : Blk w0 kb (bookCs no vI vR) 54) :
    Ret Tryd.prog 77 [(.pointer (some ⟨kb, 0, none⟩))] w0 (fun r w1 => w0 = w1) := by
  have b0 : Blk w0 kb [(.int .i64 no), (.slice none 0 0), vI, (.slice none 0 0), (.slice none 0 0), (.slice none 0 0), (.slice none 0 0), (.slice none 0 0), vR, (.slice none 0 0), (.slice none 0 0), (.slice none 0 0), (.slice none 0 0)] 54 := hb
  refine Ret_of (n := 42) Tryd.func77 rfl rfl (Nat.le_of_ble_eq_true rfl) ?_
  refine W_seq ?_
  refine W_region rfl ?_
  refine S_assign rfl rfl rfl (v := (.int .i64 0)) (rfl) ?_
  refine OPS.nil ?_
  change WP _ _ _ _ _ _
  refine W_block ?_
  refine W_loop (fun k σ w => σ 0 = .pointer (some ⟨kb, 0, none⟩) ∧ σ 2 = .int .i64 0 ∧ w0 = w) (0) ⟨rfl, rfl, rfl⟩ ?_
  rintro k σ w ⟨s0, s1, rfl⟩
  refine W_seq ?_
  refine W_seq ?_
  refine W_region rfl ?_
  refine S_move rfl rfl rfl (v := (.int .i64 0)) (s1) ?_
  refine S_move rfl rfl rfl (v := (.pointer (some ⟨kb, 0, none⟩))) (s0) ?_
  refine S_nil rfl rfl rfl (rfl) ?_
  refine S_field ft_assayerlaw01_Book_11 rfl rfl rfl (g := kb) (o := 0) (rfl) (o' := 11) rfl ?_
  refine S_load rfl rfl rfl (rfl) (LD.blk1 ti_Lassayerlaw01_heldNode b0 (v := (.slice none 0 0)) rfl) ?_
  refine S_len Tryd.underlying51 rfl rfl rfl (rfl) (m := 0) (⟨_, _, rfl⟩) ?_
  refine S_bin rfl rfl rfl rfl rfl (rfl) (rfl) (v := .bool false) (by simp [binV]) ?_
  refine OPS.nil ?_
  change WP _ _ _ _ _ _
  refine W_cond rfl (b := false) (rfl) (fun h => (by cases h)) (fun _ => ?_)
  refine W_exit ?_
  change Fin' _ _ _ _ _ _
  exact End0 rfl rfl

set_option maxHeartbeats 400000 in
theorem lookNode_e (w0 : World) (kb : Nat) (no : Int) (vI vR : Value) (hb : Blk w0 kb (bookCs no vI vR) 54) :
    Ret Tryd.prog 89 [(.pointer (some ⟨kb, 0, none⟩))] w0 (fun r w1 => r = .bool true ∧ w0 = w1) := by
  have b0 : Blk w0 kb [(.int .i64 no), (.slice none 0 0), vI, (.slice none 0 0), (.slice none 0 0), (.slice none 0 0), (.slice none 0 0), (.slice none 0 0), vR, (.slice none 0 0), (.slice none 0 0), (.slice none 0 0), (.slice none 0 0)] 54 := hb
  refine Ret_of (n := 64) Tryd.func89 rfl rfl (Nat.le_of_ble_eq_true rfl) ?_
  refine W_seq ?_
  refine W_region rfl ?_
  refine S_assign rfl rfl rfl (v := (.bool false)) (rfl) ?_
  refine OPS.nil ?_
  change WP _ _ _ _ _ _
  refine W_seq ?_
  refine W_seq ?_
  refine W_region rfl ?_
  refine S_assign rfl rfl rfl (v := (.int .i64 0)) (rfl) ?_
  refine OPS.nil ?_
  change WP _ _ _ _ _ _
  refine W_block ?_
  refine W_loop (fun k σ w => σ 0 = .pointer (some ⟨kb, 0, none⟩) ∧ σ 3 = .int .i64 0 ∧ w0 = w) (0) ⟨rfl, rfl, rfl⟩ ?_
  rintro k σ w ⟨s0, s1, rfl⟩
  refine W_seq ?_
  refine W_seq ?_
  refine W_region rfl ?_
  refine S_move rfl rfl rfl (v := (.int .i64 0)) (s1) ?_
  refine S_move rfl rfl rfl (v := (.pointer (some ⟨kb, 0, none⟩))) (s0) ?_
  refine S_nil rfl rfl rfl (rfl) ?_
  refine S_field ft_assayerlaw01_Book_11 rfl rfl rfl (g := kb) (o := 0) (rfl) (o' := 11) rfl ?_
  refine S_load rfl rfl rfl (rfl) (LD.blk1 ti_Lassayerlaw01_heldNode b0 (v := (.slice none 0 0)) rfl) ?_
  refine S_len Tryd.underlying51 rfl rfl rfl (rfl) (m := 0) (⟨_, _, rfl⟩) ?_
  refine S_bin rfl rfl rfl rfl rfl (rfl) (rfl) (v := .bool false) (by simp [binV]) ?_
  refine OPS.nil ?_
  change WP _ _ _ _ _ _
  refine W_cond rfl (b := false) (rfl) (fun h => (by cases h)) (fun _ => ?_)
  refine W_exit ?_
  change WP _ _ _ _ _ _
  refine W_seq ?_
  refine W_region rfl ?_
  refine S_assign rfl rfl rfl (v := (.bool true)) (rfl) ?_
  refine OPS.nil ?_
  change WP _ _ _ _ _ _
  refine W_ret ?_
  change Fin' _ _ _ _ _ _
  refine End1 (n := ⟨64, []⟩) (t := 2) rfl (by decide) (v := (.bool true)) (rfl) ?_
  exact ⟨rfl, rfl⟩

set_option maxHeartbeats 400000 in
theorem fillJob_e (w0 : World) (kb : Nat) (no : Int) (vI vR : Value) (hb : Blk w0 kb (bookCs no vI vR) 54) :
    Ret Tryd.prog 66 [(.pointer (some ⟨kb, 0, none⟩))] w0 (fun r w1 => w0 = w1) := by
  have b0 : Blk w0 kb [(.int .i64 no), (.slice none 0 0), vI, (.slice none 0 0), (.slice none 0 0), (.slice none 0 0), (.slice none 0 0), (.slice none 0 0), vR, (.slice none 0 0), (.slice none 0 0), (.slice none 0 0), (.slice none 0 0)] 54 := hb
  refine Ret_of (n := 35) Tryd.func66 rfl rfl (Nat.le_of_ble_eq_true rfl) ?_
  refine W_seq ?_
  refine W_region rfl ?_
  refine S_assign rfl rfl rfl (v := (.int .i64 0)) (rfl) ?_
  refine OPS.nil ?_
  change WP _ _ _ _ _ _
  refine W_block ?_
  refine W_loop (fun k σ w => σ 0 = .pointer (some ⟨kb, 0, none⟩) ∧ σ 2 = .int .i64 0 ∧ w0 = w) (0) ⟨rfl, rfl, rfl⟩ ?_
  rintro k σ w ⟨s0, s1, rfl⟩
  refine W_seq ?_
  refine W_seq ?_
  refine W_region rfl ?_
  refine S_move rfl rfl rfl (v := (.int .i64 0)) (s1) ?_
  refine S_move rfl rfl rfl (v := (.pointer (some ⟨kb, 0, none⟩))) (s0) ?_
  refine S_nil rfl rfl rfl (rfl) ?_
  refine S_field ft_assayerlaw01_Book_12 rfl rfl rfl (g := kb) (o := 0) (rfl) (o' := 12) rfl ?_
  refine S_load rfl rfl rfl (rfl) (LD.blk1 ti_Lassayerlaw01_heldJob b0 (v := (.slice none 0 0)) rfl) ?_
  refine S_len Tryd.underlying52 rfl rfl rfl (rfl) (m := 0) (⟨_, _, rfl⟩) ?_
  refine S_bin rfl rfl rfl rfl rfl (rfl) (rfl) (v := .bool false) (by simp [binV]) ?_
  refine OPS.nil ?_
  change WP _ _ _ _ _ _
  refine W_cond rfl (b := false) (rfl) (fun h => (by cases h)) (fun _ => ?_)
  refine W_exit ?_
  change Fin' _ _ _ _ _ _
  exact End0 rfl rfl

set_option maxHeartbeats 400000 in
theorem growJob_e (w0 : World) (kb : Nat) (no : Int) (vI vR : Value) (hb : Blk w0 kb (bookCs no vI vR) 54) :
    Ret Tryd.prog 78 [(.pointer (some ⟨kb, 0, none⟩))] w0 (fun r w1 => w0 = w1) := by
  have b0 : Blk w0 kb [(.int .i64 no), (.slice none 0 0), vI, (.slice none 0 0), (.slice none 0 0), (.slice none 0 0), (.slice none 0 0), (.slice none 0 0), vR, (.slice none 0 0), (.slice none 0 0), (.slice none 0 0), (.slice none 0 0)] 54 := hb
  refine Ret_of (n := 42) Tryd.func78 rfl rfl (Nat.le_of_ble_eq_true rfl) ?_
  refine W_seq ?_
  refine W_region rfl ?_
  refine S_assign rfl rfl rfl (v := (.int .i64 0)) (rfl) ?_
  refine OPS.nil ?_
  change WP _ _ _ _ _ _
  refine W_block ?_
  refine W_loop (fun k σ w => σ 0 = .pointer (some ⟨kb, 0, none⟩) ∧ σ 2 = .int .i64 0 ∧ w0 = w) (0) ⟨rfl, rfl, rfl⟩ ?_
  rintro k σ w ⟨s0, s1, rfl⟩
  refine W_seq ?_
  refine W_seq ?_
  refine W_region rfl ?_
  refine S_move rfl rfl rfl (v := (.int .i64 0)) (s1) ?_
  refine S_move rfl rfl rfl (v := (.pointer (some ⟨kb, 0, none⟩))) (s0) ?_
  refine S_nil rfl rfl rfl (rfl) ?_
  refine S_field ft_assayerlaw01_Book_12 rfl rfl rfl (g := kb) (o := 0) (rfl) (o' := 12) rfl ?_
  refine S_load rfl rfl rfl (rfl) (LD.blk1 ti_Lassayerlaw01_heldJob b0 (v := (.slice none 0 0)) rfl) ?_
  refine S_len Tryd.underlying52 rfl rfl rfl (rfl) (m := 0) (⟨_, _, rfl⟩) ?_
  refine S_bin rfl rfl rfl rfl rfl (rfl) (rfl) (v := .bool false) (by simp [binV]) ?_
  refine OPS.nil ?_
  change WP _ _ _ _ _ _
  refine W_cond rfl (b := false) (rfl) (fun h => (by cases h)) (fun _ => ?_)
  refine W_exit ?_
  change Fin' _ _ _ _ _ _
  exact End0 rfl rfl

set_option maxHeartbeats 400000 in
theorem lookJob_e (w0 : World) (kb : Nat) (no : Int) (vI vR : Value) (hb : Blk w0 kb (bookCs no vI vR) 54) :
    Ret Tryd.prog 90 [(.pointer (some ⟨kb, 0, none⟩))] w0 (fun r w1 => r = .bool true ∧ w0 = w1) := by
  have b0 : Blk w0 kb [(.int .i64 no), (.slice none 0 0), vI, (.slice none 0 0), (.slice none 0 0), (.slice none 0 0), (.slice none 0 0), (.slice none 0 0), vR, (.slice none 0 0), (.slice none 0 0), (.slice none 0 0), (.slice none 0 0)] 54 := hb
  refine Ret_of (n := 64) Tryd.func90 rfl rfl (Nat.le_of_ble_eq_true rfl) ?_
  refine W_seq ?_
  refine W_region rfl ?_
  refine S_assign rfl rfl rfl (v := (.bool false)) (rfl) ?_
  refine OPS.nil ?_
  change WP _ _ _ _ _ _
  refine W_seq ?_
  refine W_seq ?_
  refine W_region rfl ?_
  refine S_assign rfl rfl rfl (v := (.int .i64 0)) (rfl) ?_
  refine OPS.nil ?_
  change WP _ _ _ _ _ _
  refine W_block ?_
  refine W_loop (fun k σ w => σ 0 = .pointer (some ⟨kb, 0, none⟩) ∧ σ 3 = .int .i64 0 ∧ w0 = w) (0) ⟨rfl, rfl, rfl⟩ ?_
  rintro k σ w ⟨s0, s1, rfl⟩
  refine W_seq ?_
  refine W_seq ?_
  refine W_region rfl ?_
  refine S_move rfl rfl rfl (v := (.int .i64 0)) (s1) ?_
  refine S_move rfl rfl rfl (v := (.pointer (some ⟨kb, 0, none⟩))) (s0) ?_
  refine S_nil rfl rfl rfl (rfl) ?_
  refine S_field ft_assayerlaw01_Book_12 rfl rfl rfl (g := kb) (o := 0) (rfl) (o' := 12) rfl ?_
  refine S_load rfl rfl rfl (rfl) (LD.blk1 ti_Lassayerlaw01_heldJob b0 (v := (.slice none 0 0)) rfl) ?_
  refine S_len Tryd.underlying52 rfl rfl rfl (rfl) (m := 0) (⟨_, _, rfl⟩) ?_
  refine S_bin rfl rfl rfl rfl rfl (rfl) (rfl) (v := .bool false) (by simp [binV]) ?_
  refine OPS.nil ?_
  change WP _ _ _ _ _ _
  refine W_cond rfl (b := false) (rfl) (fun h => (by cases h)) (fun _ => ?_)
  refine W_exit ?_
  change WP _ _ _ _ _ _
  refine W_seq ?_
  refine W_region rfl ?_
  refine S_assign rfl rfl rfl (v := (.bool true)) (rfl) ?_
  refine OPS.nil ?_
  change WP _ _ _ _ _ _
  refine W_ret ?_
  change Fin' _ _ _ _ _ _
  refine End1 (n := ⟨64, []⟩) (t := 2) rfl (by decide) (v := (.bool true)) (rfl) ?_
  exact ⟨rfl, rfl⟩

end Go.Proofs.YtccmicegihlfbaaDoor
