/- The rounds of a book: kinds of which there is no list. -/
import Derived.Test.YtccmicegihlfbaaGreatDoorMark
import Derived.Test.YtccmicegihlfbaaGreatDoorTy
set_option linter.unusedVariables false
set_option linter.unusedSimpArgs false
namespace Go.Proofs.YtccmicegihlfbaaGreatDoor
open Go.RowKit

set_option maxHeartbeats 400000 in
theorem fillByte_e (w0 : World) (kb : Nat) (no : Int) (vI vR : Value) (hb : Blk w0 kb (bookCs no vI vR) 45) :
    Ret Tryz.prog 101 [(.pointer (some ⟨kb, 0, none⟩))] w0 (fun r w1 => w0 = w1) := by
  have b0 : Blk w0 kb [(.int .i64 no), (.slice none 0 0), vI, (.slice none 0 0), (.slice none 0 0), (.slice none 0 0), (.slice none 0 0), (.slice none 0 0), vR, (.slice none 0 0), (.slice none 0 0), (.slice none 0 0), (.slice none 0 0)] 45 := hb
  refine Ret_of (n := 35) Tryz.func101 rfl rfl (Nat.le_of_ble_eq_true rfl) ?_
  refine W_seq ?_
  refine W_region rfl ?_
  refine S_assign rfl rfl rfl (v := (.int .i64 0)) (rfl) ?_
  refine OPS.nil ?_
  change WP _ _ _ _ _ _
  refine W_block ?_
  refine W_loop (fun k σ w => σ 0 = .pointer (some ⟨kb, 0, none⟩) ∧ σ 2 = .int .i64 0 ∧ w0 = w) (0) ⟨rfl, rfl, rfl⟩ ?_
  rintro k σ w ⟨s0, s1, rfl⟩
  refine W_seq ?_
  refine W_seq ?_
  refine W_region rfl ?_
  refine S_move rfl rfl rfl (v := (.int .i64 0)) (s1) ?_
  refine S_move rfl rfl rfl (v := (.pointer (some ⟨kb, 0, none⟩))) (s0) ?_
  refine S_nil rfl rfl rfl (rfl) ?_
  refine S_field ft_assayerlaw01_Book_1 rfl rfl rfl (g := kb) (o := 0) (rfl) (o' := 1) rfl ?_
  refine S_load rfl rfl rfl (rfl) (LD.blk1 ti_Lassayerlaw01_heldByte b0 (v := (.slice none 0 0)) rfl) ?_
  refine S_len Tryz.underlying32 rfl rfl rfl (rfl) (m := 0) (⟨_, _, rfl⟩) ?_
  refine S_bin rfl rfl rfl rfl rfl (rfl) (rfl) (v := .bool false) (by simp [binV]) ?_
  refine OPS.nil ?_
  change WP _ _ _ _ _ _
  refine W_cond rfl (b := false) (rfl) (fun h => (by cases h)) (fun _ => ?_)
  refine W_exit ?_
  change Fin' _ _ _ _ _ _
  exact End0 rfl rfl

set_option maxHeartbeats 400000 in
theorem growByte_e (w0 : World) (kb : Nat) (no : Int) (vI vR : Value) (hb : Blk w0 kb (bookCs no vI vR) 45) :
    Ret Tryz.prog 113 [(.pointer (some ⟨kb, 0, none⟩))] w0 (fun r w1 => w0 = w1) := by
  have b0 : Blk w0 kb [(.int .i64 no), (.slice none 0 0), vI, (.slice none 0 0), (.slice none 0 0), (.slice none 0 0), (.slice none 0 0), (.slice none 0 0), vR, (.slice none 0 0), (.slice none 0 0), (.slice none 0 0), (.slice none 0 0)] 45 := hb
  refine Ret_of (n := 42) Tryz.func113 rfl rfl (Nat.le_of_ble_eq_true rfl) ?_
  refine W_seq ?_
  refine W_region rfl ?_
  refine S_assign rfl rfl rfl (v := (.int .i64 0)) (rfl) ?_
  refine OPS.nil ?_
  change WP _ _ _ _ _ _
  refine W_block ?_
  refine W_loop (fun k σ w => σ 0 = .pointer (some ⟨kb, 0, none⟩) ∧ σ 2 = .int .i64 0 ∧ w0 = w) (0) ⟨rfl, rfl, rfl⟩ ?_
  rintro k σ w ⟨s0, s1, rfl⟩
  refine W_seq ?_
  refine W_seq ?_
  refine W_region rfl ?_
  refine S_move rfl rfl rfl (v := (.int .i64 0)) (s1) ?_
  refine S_move rfl rfl rfl (v := (.pointer (some ⟨kb, 0, none⟩))) (s0) ?_
  refine S_nil rfl rfl rfl (rfl) ?_
  refine S_field ft_assayerlaw01_Book_1 rfl rfl rfl (g := kb) (o := 0) (rfl) (o' := 1) rfl ?_
  refine S_load rfl rfl rfl (rfl) (LD.blk1 ti_Lassayerlaw01_heldByte b0 (v := (.slice none 0 0)) rfl) ?_
  refine S_len Tryz.underlying32 rfl rfl rfl (rfl) (m := 0) (⟨_, _, rfl⟩) ?_
  refine S_bin rfl rfl rfl rfl rfl (rfl) (rfl) (v := .bool false) (by simp [binV]) ?_
  refine OPS.nil ?_
  change WP _ _ _ _ _ _
  refine W_cond rfl (b := false) (rfl) (fun h => (by cases h)) (fun _ => ?_)
  refine W_exit ?_
  change Fin' _ _ _ _ _ _
  exact End0 rfl rfl

set_option maxHeartbeats 400000 in
theorem lookByte_e (w0 : World) (kb : Nat) (no : Int) (vI vR : Value) (hb : Blk w0 kb (bookCs no vI vR) 45) :
    Ret Tryz.prog 125 [(.pointer (some ⟨kb, 0, none⟩))] w0 (fun r w1 => r = .bool true ∧ w0 = w1) := by
  have b0 : Blk w0 kb [(.int .i64 no), (.slice none 0 0), vI, (.slice none 0 0), (.slice none 0 0), (.slice none 0 0), (.slice none 0 0), (.slice none 0 0), vR, (.slice none 0 0), (.slice none 0 0), (.slice none 0 0), (.slice none 0 0)] 45 := hb
  refine Ret_of (n := 64) Tryz.func125 rfl rfl (Nat.le_of_ble_eq_true rfl) ?_
  refine W_seq ?_
  refine W_region rfl ?_
  refine S_assign rfl rfl rfl (v := (.bool false)) (rfl) ?_
  refine OPS.nil ?_
  change WP _ _ _ _ _ _
  refine W_seq ?_
  refine W_seq ?_
  refine W_region rfl ?_
  refine S_assign rfl rfl rfl (v := (.int .i64 0)) (rfl) ?_
  refine OPS.nil ?_
  change WP _ _ _ _ _ _
  refine W_block ?_
  refine W_loop (fun k σ w => σ 0 = .pointer (some ⟨kb, 0, none⟩) ∧ σ 3 = .int .i64 0 ∧ w0 = w) (0) ⟨rfl, rfl, rfl⟩ ?_
  rintro k σ w ⟨s0, s1, rfl⟩
  refine W_seq ?_
  refine W_seq ?_
  refine W_region rfl ?_
  refine S_move rfl rfl rfl (v := (.int .i64 0)) (s1) ?_
  refine S_move rfl rfl rfl (v := (.pointer (some ⟨kb, 0, none⟩))) (s0) ?_
  refine S_nil rfl rfl rfl (rfl) ?_
  refine S_field ft_assayerlaw01_Book_1 rfl rfl rfl (g := kb) (o := 0) (rfl) (o' := 1) rfl ?_
  refine S_load rfl rfl rfl (rfl) (LD.blk1 ti_Lassayerlaw01_heldByte b0 (v := (.slice none 0 0)) rfl) ?_
  refine S_len Tryz.underlying32 rfl rfl rfl (rfl) (m := 0) (⟨_, _, rfl⟩) ?_
  refine S_bin rfl rfl rfl rfl rfl (rfl) (rfl) (v := .bool false) (by simp [binV]) ?_
  refine OPS.nil ?_
  change WP _ _ _ _ _ _
  refine W_cond rfl (b := false) (rfl) (fun h => (by cases h)) (fun _ => ?_)
  refine W_exit ?_
  change WP _ _ _ _ _ _
  refine W_seq ?_
  refine W_region rfl ?_
  refine S_assign rfl rfl rfl (v := (.bool true)) (rfl) ?_
  refine OPS.nil ?_
  change WP _ _ _ _ _ _
  refine W_ret ?_
  change Fin' _ _ _ _ _ _
  refine End1 (n := ⟨64, []⟩) (t := 2) rfl (by decide) (v := (.bool true)) (rfl) ?_
  exact ⟨rfl, rfl⟩

set_option maxHeartbeats 400000 in
theorem fillNum_e (w0 : World) (kb : Nat) (no : Int) (vI vR : Value) (hb : Blk w0 kb (bookCs no vI vR) 45) :
    Ret Tryz.prog 103 [(.pointer (some ⟨kb, 0, none⟩))] w0 (fun r w1 => w0 = w1) := by
  have b0 : Blk w0 kb [(.int .i64 no), (.slice none 0 0), vI, (.slice none 0 0), (.slice none 0 0), (.slice none 0 0), (.slice none 0 0), (.slice none 0 0), vR, (.slice none 0 0), (.slice none 0 0), (.slice none 0 0), (.slice none 0 0)] 45 := hb
  refine Ret_of (n := 35) Tryz.func103 rfl rfl (Nat.le_of_ble_eq_true rfl) ?_
  refine W_seq ?_
  refine W_region rfl ?_
  refine S_assign rfl rfl rfl (v := (.int .i64 0)) (rfl) ?_
  refine OPS.nil ?_
  change WP _ _ _ _ _ _
  refine W_block ?_
  refine W_loop (fun k σ w => σ 0 = .pointer (some ⟨kb, 0, none⟩) ∧ σ 2 = .int .i64 0 ∧ w0 = w) (0) ⟨rfl, rfl, rfl⟩ ?_
  rintro k σ w ⟨s0, s1, rfl⟩
  refine W_seq ?_
  refine W_seq ?_
  refine W_region rfl ?_
  refine S_move rfl rfl rfl (v := (.int .i64 0)) (s1) ?_
  refine S_move rfl rfl rfl (v := (.pointer (some ⟨kb, 0, none⟩))) (s0) ?_
  refine S_nil rfl rfl rfl (rfl) ?_
  refine S_field ft_assayerlaw01_Book_3 rfl rfl rfl (g := kb) (o := 0) (rfl) (o' := 3) rfl ?_
  refine S_load rfl rfl rfl (rfl) (LD.blk1 ti_Lassayerlaw01_heldNum b0 (v := (.slice none 0 0)) rfl) ?_
  refine S_len Tryz.underlying34 rfl rfl rfl (rfl) (m := 0) (⟨_, _, rfl⟩) ?_
  refine S_bin rfl rfl rfl rfl rfl (rfl) (rfl) (v := .bool false) (by simp [binV]) ?_
  refine OPS.nil ?_
  change WP _ _ _ _ _ _
  refine W_cond rfl (b := false) (rfl) (fun h => (by cases h)) (fun _ => ?_)
  refine W_exit ?_
  change Fin' _ _ _ _ _ _
  exact End0 rfl rfl

set_option maxHeartbeats 400000 in
theorem growNum_e (w0 : World) (kb : Nat) (no : Int) (vI vR : Value) (hb : Blk w0 kb (bookCs no vI vR) 45) :
    Ret Tryz.prog 115 [(.pointer (some ⟨kb, 0, none⟩))] w0 (fun r w1 => w0 = w1) := by
  have b0 : Blk w0 kb [(.int .i64 no), (.slice none 0 0), vI, (.slice none 0 0), (.slice none 0 0), (.slice none 0 0), (.slice none 0 0), (.slice none 0 0), vR, (.slice none 0 0), (.slice none 0 0), (.slice none 0 0), (.slice none 0 0)] 45 := hb
  refine Ret_of (n := 42) Tryz.func115 rfl rfl (Nat.le_of_ble_eq_true rfl) ?_
  refine W_seq ?_
  refine W_region rfl ?_
  refine S_assign rfl rfl rfl (v := (.int .i64 0)) (rfl) ?_
  refine OPS.nil ?_
  change WP _ _ _ _ _ _
  refine W_block ?_
  refine W_loop (fun k σ w => σ 0 = .pointer (some ⟨kb, 0, none⟩) ∧ σ 2 = .int .i64 0 ∧ w0 = w) (0) ⟨rfl, rfl, rfl⟩ ?_
  rintro k σ w ⟨s0, s1, rfl⟩
  refine W_seq ?_
  refine W_seq ?_
  refine W_region rfl ?_
  refine S_move rfl rfl rfl (v := (.int .i64 0)) (s1) ?_
  refine S_move rfl rfl rfl (v := (.pointer (some ⟨kb, 0, none⟩))) (s0) ?_
  refine S_nil rfl rfl rfl (rfl) ?_
  refine S_field ft_assayerlaw01_Book_3 rfl rfl rfl (g := kb) (o := 0) (rfl) (o' := 3) rfl ?_
  refine S_load rfl rfl rfl (rfl) (LD.blk1 ti_Lassayerlaw01_heldNum b0 (v := (.slice none 0 0)) rfl) ?_
  refine S_len Tryz.underlying34 rfl rfl rfl (rfl) (m := 0) (⟨_, _, rfl⟩) ?_
  refine S_bin rfl rfl rfl rfl rfl (rfl) (rfl) (v := .bool false) (by simp [binV]) ?_
  refine OPS.nil ?_
  change WP _ _ _ _ _ _
  refine W_cond rfl (b := false) (rfl) (fun h => (by cases h)) (fun _ => ?_)
  refine W_exit ?_
  change Fin' _ _ _ _ _ _
  exact End0 rfl rfl

set_option maxHeartbeats 400000 in
theorem lookNum_e (w0 : World) (kb : Nat) (no : Int) (vI vR : Value) (hb : Blk w0 kb (bookCs no vI vR) 45) :
    Ret Tryz.prog 127 [(.pointer (some ⟨kb, 0, none⟩))] w0 (fun r w1 => r = .bool true ∧ w0 = w1) := by
  have b0 : Blk w0 kb [(.int .i64 no), (.slice none 0 0), vI, (.slice none 0 0), (.slice none 0 0), (.slice none 0 0), (.slice none 0 0), (.slice none 0 0), vR, (.slice none 0 0), (.slice none 0 0), (.slice none 0 0), (.slice none 0 0)] 45 := hb
  refine Ret_of (n := 64) Tryz.func127 rfl rfl (Nat.le_of_ble_eq_true rfl) ?_
  refine W_seq ?_
  refine W_region rfl ?_
  refine S_assign rfl rfl rfl (v := (.bool false)) (rfl) ?_
  refine OPS.nil ?_
  change WP _ _ _ _ _ _
  refine W_seq ?_
  refine W_seq ?_
  refine W_region rfl ?_
  refine S_assign rfl rfl rfl (v := (.int .i64 0)) (rfl) ?_
  refine OPS.nil ?_
  change WP _ _ _ _ _ _
  refine W_block ?_
  refine W_loop (fun k σ w => σ 0 = .pointer (some ⟨kb, 0, none⟩) ∧ σ 3 = .int .i64 0 ∧ w0 = w) (0) ⟨rfl, rfl, rfl⟩ ?_
  rintro k σ w ⟨s0, s1, rfl⟩
  refine W_seq ?_
  refine W_seq ?_
  refine W_region rfl ?_
  refine S_move rfl rfl rfl (v := (.int .i64 0)) (s1) ?_
  refine S_move rfl rfl rfl (v := (.pointer (some ⟨kb, 0, none⟩))) (s0) ?_
  refine S_nil rfl rfl rfl (rfl) ?_
  refine S_field ft_assayerlaw01_Book_3 rfl rfl rfl (g := kb) (o := 0) (rfl) (o' := 3) rfl ?_
  refine S_load rfl rfl rfl (rfl) (LD.blk1 ti_Lassayerlaw01_heldNum b0 (v := (.slice none 0 0)) rfl) ?_
  refine S_len Tryz.underlying34 rfl rfl rfl (rfl) (m := 0) (⟨_, _, rfl⟩) ?_
  refine S_bin rfl rfl rfl rfl rfl (rfl) (rfl) (v := .bool false) (by simp [binV]) ?_
  refine OPS.nil ?_
  change WP _ _ _ _ _ _
  refine W_cond rfl (b := false) (rfl) (fun h => (by cases h)) (fun _ => ?_)
  refine W_exit ?_
  change WP _ _ _ _ _ _
  refine W_seq ?_
  refine W_region rfl ?_
  refine S_assign rfl rfl rfl (v := (.bool true)) (rfl) ?_
  refine OPS.nil ?_
  change WP _ _ _ _ _ _
  refine W_ret ?_
  change Fin' _ _ _ _ _ _
  refine End1 (n := ⟨64, []⟩) (t := 2) rfl (by decide) (v := (.bool true)) (rfl) ?_
  exact ⟨rfl, rfl⟩

set_option maxHeartbeats 400000 in
theorem fillBool_e (w0 : World) (kb : Nat) (no : Int) (vI vR : Value) (hb : Blk w0 kb (bookCs no vI vR) 45) :
    Ret Tryz.prog 104 [(.pointer (some ⟨kb, 0, none⟩))] w0 (fun r w1 => w0 = w1) := by
  have b0 : Blk w0 kb [(.int .i64 no), (.slice none 0 0), vI, (.slice none 0 0), (.slice none 0 0), (.slice none 0 0), (.slice none 0 0), (.slice none 0 0), vR, (.slice none 0 0), (.slice none 0 0), (.slice none 0 0), (.slice none 0 0)] 45 := hb
  refine Ret_of (n := 35) Tryz.func104 rfl rfl (Nat.le_of_ble_eq_true rfl) ?_
  refine W_seq ?_
  refine W_region rfl ?_
  refine S_assign rfl rfl rfl (v := (.int .i64 0)) (rfl) ?_
  refine OPS.nil ?_
  change WP _ _ _ _ _ _
  refine W_block ?_
  refine W_loop (fun k σ w => σ 0 = .pointer (some ⟨kb, 0, none⟩) ∧ σ 2 = .int .i64 0 ∧ w0 = w) (0) ⟨rfl, rfl, rfl⟩ ?_
  rintro k σ w ⟨s0, s1, rfl⟩
  refine W_seq ?_
  refine W_seq ?_
  refine W_region rfl ?_
  refine S_move rfl rfl rfl (v := (.int .i64 0)) (s1) ?_
  refine S_move rfl rfl rfl (v := (.pointer (some ⟨kb, 0, none⟩))) (s0) ?_
  refine S_nil rfl rfl rfl (rfl) ?_
  refine S_field ft_assayerlaw01_Book_4 rfl rfl rfl (g := kb) (o := 0) (rfl) (o' := 4) rfl ?_
  refine S_load rfl rfl rfl (rfl) (LD.blk1 ti_Lassayerlaw01_heldBool b0 (v := (.slice none 0 0)) rfl) ?_
  refine S_len Tryz.underlying35 rfl rfl rfl (rfl) (m := 0) (⟨_, _, rfl⟩) ?_
  refine S_bin rfl rfl rfl rfl rfl (rfl) (rfl) (v := .bool false) (by simp [binV]) ?_
  refine OPS.nil ?_
  change WP _ _ _ _ _ _
  refine W_cond rfl (b := false) (rfl) (fun h => (by cases h)) (fun _ => ?_)
  refine W_exit ?_
  change Fin' _ _ _ _ _ _
  exact End0 rfl rfl

set_option maxHeartbeats 400000 in
theorem growBool_e (w0 : World) (kb : Nat) (no : Int) (vI vR : Value) (hb : Blk w0 kb (bookCs no vI vR) 45) :
    Ret Tryz.prog 116 [(.pointer (some ⟨kb, 0, none⟩))] w0 (fun r w1 => w0 = w1) := by
  have b0 : Blk w0 kb [(.int .i64 no), (.slice none 0 0), vI, (.slice none 0 0), (.slice none 0 0), (.slice none 0 0), (.slice none 0 0), (.slice none 0 0), vR, (.slice none 0 0), (.slice none 0 0), (.slice none 0 0), (.slice none 0 0)] 45 := hb
  refine Ret_of (n := 42) Tryz.func116 rfl rfl (Nat.le_of_ble_eq_true rfl) ?_
  refine W_seq ?_
  refine W_region rfl ?_
  refine S_assign rfl rfl rfl (v := (.int .i64 0)) (rfl) ?_
  refine OPS.nil ?_
  change WP _ _ _ _ _ _
  refine W_block ?_
  refine W_loop (fun k σ w => σ 0 = .pointer (some ⟨kb, 0, none⟩) ∧ σ 2 = .int .i64 0 ∧ w0 = w) (0) ⟨rfl, rfl, rfl⟩ ?_
  rintro k σ w ⟨s0, s1, rfl⟩
  refine W_seq ?_
  refine W_seq ?_
  refine W_region rfl ?_
  refine S_move rfl rfl rfl (v := (.int .i64 0)) (s1) ?_
  refine S_move rfl rfl rfl (v := (.pointer (some ⟨kb, 0, none⟩))) (s0) ?_
  refine S_nil rfl rfl rfl (rfl) ?_
  refine S_field ft_assayerlaw01_Book_4 rfl rfl rfl (g := kb) (o := 0) (rfl) (o' := 4) rfl ?_
  refine S_load rfl rfl rfl (rfl) (LD.blk1 ti_Lassayerlaw01_heldBool b0 (v := (.slice none 0 0)) rfl) ?_
  refine S_len Tryz.underlying35 rfl rfl rfl (rfl) (m := 0) (⟨_, _, rfl⟩) ?_
  refine S_bin rfl rfl rfl rfl rfl (rfl) (rfl) (v := .bool false) (by simp [binV]) ?_
  refine OPS.nil ?_
  change WP _ _ _ _ _ _
  refine W_cond rfl (b := false) (rfl) (fun h => (by cases h)) (fun _ => ?_)
  refine W_exit ?_
  change Fin' _ _ _ _ _ _
  exact End0 rfl rfl

set_option maxHeartbeats 400000 in
theorem lookBool_e (w0 : World) (kb : Nat) (no : Int) (vI vR : Value) (hb : Blk w0 kb (bookCs no vI vR) 45) :
    Ret Tryz.prog 128 [(.pointer (some ⟨kb, 0, none⟩))] w0 (fun r w1 => r = .bool true ∧ w0 = w1) := by
  have b0 : Blk w0 kb [(.int .i64 no), (.slice none 0 0), vI, (.slice none 0 0), (.slice none 0 0), (.slice none 0 0), (.slice none 0 0), (.slice none 0 0), vR, (.slice none 0 0), (.slice none 0 0), (.slice none 0 0), (.slice none 0 0)] 45 := hb
  refine Ret_of (n := 64) Tryz.func128 rfl rfl (Nat.le_of_ble_eq_true rfl) ?_
  refine W_seq ?_
  refine W_region rfl ?_
  refine S_assign rfl rfl rfl (v := (.bool false)) (rfl) ?_
  refine OPS.nil ?_
  change WP _ _ _ _ _ _
  refine W_seq ?_
  refine W_seq ?_
  refine W_region rfl ?_
  refine S_assign rfl rfl rfl (v := (.int .i64 0)) (rfl) ?_
  refine OPS.nil ?_
  change WP _ _ _ _ _ _
  refine W_block ?_
  refine W_loop (fun k σ w => σ 0 = .pointer (some ⟨kb, 0, none⟩) ∧ σ 3 = .int .i64 0 ∧ w0 = w) (0) ⟨rfl, rfl, rfl⟩ ?_
  rintro k σ w ⟨s0, s1, rfl⟩
  refine W_seq ?_
  refine W_seq ?_
  refine W_region rfl ?_
  refine S_move rfl rfl rfl (v := (.int .i64 0)) (s1) ?_
  refine S_move rfl rfl rfl (v := (.pointer (some ⟨kb, 0, none⟩))) (s0) ?_
  refine S_nil rfl rfl rfl (rfl) ?_
  refine S_field ft_assayerlaw01_Book_4 rfl rfl rfl (g := kb) (o := 0) (rfl) (o' := 4) rfl ?_
  refine S_load rfl rfl rfl (rfl) (LD.blk1 ti_Lassayerlaw01_heldBool b0 (v := (.slice none 0 0)) rfl) ?_
  refine S_len Tryz.underlying35 rfl rfl rfl (rfl) (m := 0) (⟨_, _, rfl⟩) ?_
  refine S_bin rfl rfl rfl rfl rfl (rfl) (rfl) (v := .bool false) (by simp [binV]) ?_
  refine OPS.nil ?_
  change WP _ _ _ _ _ _
  refine W_cond rfl (b := false) (rfl) (fun h => (by cases h)) (fun _ => ?_)
  refine W_exit ?_
  change WP _ _ _ _ _ _
  refine W_seq ?_
  refine W_region rfl ?_
  refine S_assign rfl rfl rfl (v := (.bool true)) (rfl) ?_
  refine OPS.nil ?_
  change WP _ _ _ _ _ _
  refine W_ret ?_
  change Fin' _ _ _ _ _ _
  refine End1 (n := ⟨64, []⟩) (t := 2) rfl (by decide) (v := (.bool true)) (rfl) ?_
  exact ⟨rfl, rfl⟩

set_option maxHeartbeats 400000 in
theorem fillText_e (w0 : World) (kb : Nat) (no : Int) (vI vR : Value) (hb : Blk w0 kb (bookCs no vI vR) 45) :
    Ret Tryz.prog 105 [(.pointer (some ⟨kb, 0, none⟩))] w0 (fun r w1 => w0 = w1) := by
  have b0 : Blk w0 kb [(.int .i64 no), (.slice none 0 0), vI, (.slice none 0 0), (.slice none 0 0), (.slice none 0 0), (.slice none 0 0), (.slice none 0 0), vR, (.slice none 0 0), (.slice none 0 0), (.slice none 0 0), (.slice none 0 0)] 45 := hb
  refine Ret_of (n := 35) Tryz.func105 rfl rfl (Nat.le_of_ble_eq_true rfl) ?_
  refine W_seq ?_
  refine W_region rfl ?_
  refine S_assign rfl rfl rfl (v := (.int .i64 0)) (rfl) ?_
  refine OPS.nil ?_
  change WP _ _ _ _ _ _
  refine W_block ?_
  refine W_loop (fun k σ w => σ 0 = .pointer (some ⟨kb, 0, none⟩) ∧ σ 2 = .int .i64 0 ∧ w0 = w) (0) ⟨rfl, rfl, rfl⟩ ?_
  rintro k σ w ⟨s0, s1, rfl⟩
  refine W_seq ?_
  refine W_seq ?_
  refine W_region rfl ?_
  refine S_move rfl rfl rfl (v := (.int .i64 0)) (s1) ?_
  refine S_move rfl rfl rfl (v := (.pointer (some ⟨kb, 0, none⟩))) (s0) ?_
  refine S_nil rfl rfl rfl (rfl) ?_
  refine S_field ft_assayerlaw01_Book_5 rfl rfl rfl (g := kb) (o := 0) (rfl) (o' := 5) rfl ?_
  refine S_load rfl rfl rfl (rfl) (LD.blk1 ti_Lassayerlaw01_heldText b0 (v := (.slice none 0 0)) rfl) ?_
  refine S_len Tryz.underlying36 rfl rfl rfl (rfl) (m := 0) (⟨_, _, rfl⟩) ?_
  refine S_bin rfl rfl rfl rfl rfl (rfl) (rfl) (v := .bool false) (by simp [binV]) ?_
  refine OPS.nil ?_
  change WP _ _ _ _ _ _
  refine W_cond rfl (b := false) (rfl) (fun h => (by cases h)) (fun _ => ?_)
  refine W_exit ?_
  change Fin' _ _ _ _ _ _
  exact End0 rfl rfl

set_option maxHeartbeats 400000 in
theorem growText_e (w0 : World) (kb : Nat) (no : Int) (vI vR : Value) (hb : Blk w0 kb (bookCs no vI vR) 45) :
    Ret Tryz.prog 117 [(.pointer (some ⟨kb, 0, none⟩))] w0 (fun r w1 => w0 = w1) := by
  have b0 : Blk w0 kb [(.int .i64 no), (.slice none 0 0), vI, (.slice none 0 0), (.slice none 0 0), (.slice none 0 0), (.slice none 0 0), (.slice none 0 0), vR, (.slice none 0 0), (.slice none 0 0), (.slice none 0 0), (.slice none 0 0)] 45 := hb
  refine Ret_of (n := 42) Tryz.func117 rfl rfl (Nat.le_of_ble_eq_true rfl) ?_
  refine W_seq ?_
  refine W_region rfl ?_
  refine S_assign rfl rfl rfl (v := (.int .i64 0)) (rfl) ?_
  refine OPS.nil ?_
  change WP _ _ _ _ _ _
  refine W_block ?_
  refine W_loop (fun k σ w => σ 0 = .pointer (some ⟨kb, 0, none⟩) ∧ σ 2 = .int .i64 0 ∧ w0 = w) (0) ⟨rfl, rfl, rfl⟩ ?_
  rintro k σ w ⟨s0, s1, rfl⟩
  refine W_seq ?_
  refine W_seq ?_
  refine W_region rfl ?_
  refine S_move rfl rfl rfl (v := (.int .i64 0)) (s1) ?_
  refine S_move rfl rfl rfl (v := (.pointer (some ⟨kb, 0, none⟩))) (s0) ?_
  refine S_nil rfl rfl rfl (rfl) ?_
  refine S_field ft_assayerlaw01_Book_5 rfl rfl rfl (g := kb) (o := 0) (rfl) (o' := 5) rfl ?_
  refine S_load rfl rfl rfl (rfl) (LD.blk1 ti_Lassayerlaw01_heldText b0 (v := (.slice none 0 0)) rfl) ?_
  refine S_len Tryz.underlying36 rfl rfl rfl (rfl) (m := 0) (⟨_, _, rfl⟩) ?_
  refine S_bin rfl rfl rfl rfl rfl (rfl) (rfl) (v := .bool false) (by simp [binV]) ?_
  refine OPS.nil ?_
  change WP _ _ _ _ _ _
  refine W_cond rfl (b := false) (rfl) (fun h => (by cases h)) (fun _ => ?_)
  refine W_exit ?_
  change Fin' _ _ _ _ _ _
  exact End0 rfl rfl

set_option maxHeartbeats 400000 in
theorem lookText_e (w0 : World) (kb : Nat) (no : Int) (vI vR : Value) (hb : Blk w0 kb (bookCs no vI vR) 45) :
    Ret Tryz.prog 129 [(.pointer (some ⟨kb, 0, none⟩))] w0 (fun r w1 => r = .bool true ∧ w0 = w1) := by
  have b0 : Blk w0 kb [(.int .i64 no), (.slice none 0 0), vI, (.slice none 0 0), (.slice none 0 0), (.slice none 0 0), (.slice none 0 0), (.slice none 0 0), vR, (.slice none 0 0), (.slice none 0 0), (.slice none 0 0), (.slice none 0 0)] 45 := hb
  refine Ret_of (n := 64) Tryz.func129 rfl rfl (Nat.le_of_ble_eq_true rfl) ?_
  refine W_seq ?_
  refine W_region rfl ?_
  refine S_assign rfl rfl rfl (v := (.bool false)) (rfl) ?_
  refine OPS.nil ?_
  change WP _ _ _ _ _ _
  refine W_seq ?_
  refine W_seq ?_
  refine W_region rfl ?_
  refine S_assign rfl rfl rfl (v := (.int .i64 0)) (rfl) ?_
  refine OPS.nil ?_
  change WP _ _ _ _ _ _
  refine W_block ?_
  refine W_loop (fun k σ w => σ 0 = .pointer (some ⟨kb, 0, none⟩) ∧ σ 3 = .int .i64 0 ∧ w0 = w) (0) ⟨rfl, rfl, rfl⟩ ?_
  rintro k σ w ⟨s0, s1, rfl⟩
  refine W_seq ?_
  refine W_seq ?_
  refine W_region rfl ?_
  refine S_move rfl rfl rfl (v := (.int .i64 0)) (s1) ?_
  refine S_move rfl rfl rfl (v := (.pointer (some ⟨kb, 0, none⟩))) (s0) ?_
  refine S_nil rfl rfl rfl (rfl) ?_
  refine S_field ft_assayerlaw01_Book_5 rfl rfl rfl (g := kb) (o := 0) (rfl) (o' := 5) rfl ?_
  refine S_load rfl rfl rfl (rfl) (LD.blk1 ti_Lassayerlaw01_heldText b0 (v := (.slice none 0 0)) rfl) ?_
  refine S_len Tryz.underlying36 rfl rfl rfl (rfl) (m := 0) (⟨_, _, rfl⟩) ?_
  refine S_bin rfl rfl rfl rfl rfl (rfl) (rfl) (v := .bool false) (by simp [binV]) ?_
  refine OPS.nil ?_
  change WP _ _ _ _ _ _
  refine W_cond rfl (b := false) (rfl) (fun h => (by cases h)) (fun _ => ?_)
  refine W_exit ?_
  change WP _ _ _ _ _ _
  refine W_seq ?_
  refine W_region rfl ?_
  refine S_assign rfl rfl rfl (v := (.bool true)) (rfl) ?_
  refine OPS.nil ?_
  change WP _ _ _ _ _ _
  refine W_ret ?_
  change Fin' _ _ _ _ _ _
  refine End1 (n := ⟨64, []⟩) (t := 2) rfl (by decide) (v := (.bool true)) (rfl) ?_
  exact ⟨rfl, rfl⟩

set_option maxHeartbeats 400000 in
theorem fillToken_e (w0 : World) (kb : Nat) (no : Int) (vI vR : Value) (hb : Blk w0 kb (bookCs no vI vR) 45) :
    Ret Tryz.prog 106 [(.pointer (some ⟨kb, 0, none⟩))] w0 (fun r w1 => w0 = w1) := by
  have b0 : Blk w0 kb [(.int .i64 no), (.slice none 0 0), vI, (.slice none 0 0), (.slice none 0 0), (.slice none 0 0), (.slice none 0 0), (.slice none 0 0), vR, (.slice none 0 0), (.slice none 0 0), (.slice none 0 0), (.slice none 0 0)] 45 := hb
  refine Ret_of (n := 35) Tryz.func106 rfl rfl (Nat.le_of_ble_eq_true rfl) ?_
  refine W_seq ?_
  refine W_region rfl ?_
  refine S_assign rfl rfl rfl (v := (.int .i64 0)) (rfl) ?_
  refine OPS.nil ?_
  change WP _ _ _ _ _ _
  refine W_block ?_
  refine W_loop (fun k σ w => σ 0 = .pointer (some ⟨kb, 0, none⟩) ∧ σ 2 = .int .i64 0 ∧ w0 = w) (0) ⟨rfl, rfl, rfl⟩ ?_
  rintro k σ w ⟨s0, s1, rfl⟩
  refine W_seq ?_
  refine W_seq ?_
  refine W_region rfl ?_
  refine S_move rfl rfl rfl (v := (.int .i64 0)) (s1) ?_
  refine S_move rfl rfl rfl (v := (.pointer (some ⟨kb, 0, none⟩))) (s0) ?_
  refine S_nil rfl rfl rfl (rfl) ?_
  refine S_field ft_assayerlaw01_Book_6 rfl rfl rfl (g := kb) (o := 0) (rfl) (o' := 6) rfl ?_
  refine S_load rfl rfl rfl (rfl) (LD.blk1 ti_Lassayerlaw01_heldToken b0 (v := (.slice none 0 0)) rfl) ?_
  refine S_len Tryz.underlying37 rfl rfl rfl (rfl) (m := 0) (⟨_, _, rfl⟩) ?_
  refine S_bin rfl rfl rfl rfl rfl (rfl) (rfl) (v := .bool false) (by simp [binV]) ?_
  refine OPS.nil ?_
  change WP _ _ _ _ _ _
  refine W_cond rfl (b := false) (rfl) (fun h => (by cases h)) (fun _ => ?_)
  refine W_exit ?_
  change Fin' _ _ _ _ _ _
  exact End0 rfl rfl

set_option maxHeartbeats 400000 in
theorem growToken_e (w0 : World) (kb : Nat) (no : Int) (vI vR : Value) (hb : Blk w0 kb (bookCs no vI vR) 45) :
    Ret Tryz.prog 118 [(.pointer (some ⟨kb, 0, none⟩))] w0 (fun r w1 => w0 = w1) := by
  have b0 : Blk w0 kb [(.int .i64 no), (.slice none 0 0), vI, (.slice none 0 0), (.slice none 0 0), (.slice none 0 0), (.slice none 0 0), (.slice none 0 0), vR, (.slice none 0 0), (.slice none 0 0), (.slice none 0 0), (.slice none 0 0)] 45 := hb
  refine Ret_of (n := 42) Tryz.func118 rfl rfl (Nat.le_of_ble_eq_true rfl) ?_
  refine W_seq ?_
  refine W_region rfl ?_
  refine S_assign rfl rfl rfl (v := (.int .i64 0)) (rfl) ?_
  refine OPS.nil ?_
  change WP _ _ _ _ _ _
  refine W_block ?_
  refine W_loop (fun k σ w => σ 0 = .pointer (some ⟨kb, 0, none⟩) ∧ σ 2 = .int .i64 0 ∧ w0 = w) (0) ⟨rfl, rfl, rfl⟩ ?_
  rintro k σ w ⟨s0, s1, rfl⟩
  refine W_seq ?_
  refine W_seq ?_
  refine W_region rfl ?_
  refine S_move rfl rfl rfl (v := (.int .i64 0)) (s1) ?_
  refine S_move rfl rfl rfl (v := (.pointer (some ⟨kb, 0, none⟩))) (s0) ?_
  refine S_nil rfl rfl rfl (rfl) ?_
  refine S_field ft_assayerlaw01_Book_6 rfl rfl rfl (g := kb) (o := 0) (rfl) (o' := 6) rfl ?_
  refine S_load rfl rfl rfl (rfl) (LD.blk1 ti_Lassayerlaw01_heldToken b0 (v := (.slice none 0 0)) rfl) ?_
  refine S_len Tryz.underlying37 rfl rfl rfl (rfl) (m := 0) (⟨_, _, rfl⟩) ?_
  refine S_bin rfl rfl rfl rfl rfl (rfl) (rfl) (v := .bool false) (by simp [binV]) ?_
  refine OPS.nil ?_
  change WP _ _ _ _ _ _
  refine W_cond rfl (b := false) (rfl) (fun h => (by cases h)) (fun _ => ?_)
  refine W_exit ?_
  change Fin' _ _ _ _ _ _
  exact End0 rfl rfl

set_option maxHeartbeats 400000 in
theorem lookToken_e (w0 : World) (kb : Nat) (no : Int) (vI vR : Value) (hb : Blk w0 kb (bookCs no vI vR) 45) :
    Ret Tryz.prog 130 [(.pointer (some ⟨kb, 0, none⟩))] w0 (fun r w1 => r = .bool true ∧ w0 = w1) := by
  have b0 : Blk w0 kb [(.int .i64 no), (.slice none 0 0), vI, (.slice none 0 0), (.slice none 0 0), (.slice none 0 0), (.slice none 0 0), (.slice none 0 0), vR, (.slice none 0 0), (.slice none 0 0), (.slice none 0 0), (.slice none 0 0)] 45 := hb
  refine Ret_of (n := 64) Tryz.func130 rfl rfl (Nat.le_of_ble_eq_true rfl) ?_
  refine W_seq ?_
  refine W_region rfl ?_
  refine S_assign rfl rfl rfl (v := (.bool false)) (rfl) ?_
  refine OPS.nil ?_
  change WP _ _ _ _ _ _
  refine W_seq ?_
  refine W_seq ?_
  refine W_region rfl ?_
  refine S_assign rfl rfl rfl (v := (.int .i64 0)) (rfl) ?_
  refine OPS.nil ?_
  change WP _ _ _ _ _ _
  refine W_block ?_
  refine W_loop (fun k σ w => σ 0 = .pointer (some ⟨kb, 0, none⟩) ∧ σ 3 = .int .i64 0 ∧ w0 = w) (0) ⟨rfl, rfl, rfl⟩ ?_
  rintro k σ w ⟨s0, s1, rfl⟩
  refine W_seq ?_
  refine W_seq ?_
  refine W_region rfl ?_
  refine S_move rfl rfl rfl (v := (.int .i64 0)) (s1) ?_
  refine S_move rfl rfl rfl (v := (.pointer (some ⟨kb, 0, none⟩))) (s0) ?_
  refine S_nil rfl rfl rfl (rfl) ?_
  refine S_field ft_assayerlaw01_Book_6 rfl rfl rfl (g := kb) (o := 0) (rfl) (o' := 6) rfl ?_
  refine S_load rfl rfl rfl (rfl) (LD.blk1 ti_Lassayerlaw01_heldToken b0 (v := (.slice none 0 0)) rfl) ?_
  refine S_len Tryz.underlying37 rfl rfl rfl (rfl) (m := 0) (⟨_, _, rfl⟩) ?_
  refine S_bin rfl rfl rfl rfl rfl (rfl) (rfl) (v := .bool false) (by simp [binV]) ?_
  refine OPS.nil ?_
  change WP _ _ _ _ _ _
  refine W_cond rfl (b := false) (rfl) (fun h => (by cases h)) (fun _ => ?_)
  refine W_exit ?_
  change WP _ _ _ _ _ _
  refine W_seq ?_
  refine W_region rfl ?_
  refine S_assign rfl rfl rfl (v := (.bool true)) (rfl) ?_
  refine OPS.nil ?_
  change WP _ _ _ _ _ _
  refine W_ret ?_
  change Fin' _ _ _ _ _ _
  refine End1 (n := ⟨64, []⟩) (t := 2) rfl (by decide) (v := (.bool true)) (rfl) ?_
  exact ⟨rfl, rfl⟩

set_option maxHeartbeats 400000 in
theorem fillTenant_e (w0 : World) (kb : Nat) (no : Int) (vI vR : Value) (hb : Blk w0 kb (bookCs no vI vR) 45) :
    Ret Tryz.prog 107 [(.pointer (some ⟨kb, 0, none⟩))] w0 (fun r w1 => w0 = w1) := by
  have b0 : Blk w0 kb [(.int .i64 no), (.slice none 0 0), vI, (.slice none 0 0), (.slice none 0 0), (.slice none 0 0), (.slice none 0 0), (.slice none 0 0), vR, (.slice none 0 0), (.slice none 0 0), (.slice none 0 0), (.slice none 0 0)] 45 := hb
  refine Ret_of (n := 35) Tryz.func107 rfl rfl (Nat.le_of_ble_eq_true rfl) ?_
  refine W_seq ?_
  refine W_region rfl ?_
  refine S_assign rfl rfl rfl (v := (.int .i64 0)) (rfl) ?_
  refine OPS.nil ?_
  change WP _ _ _ _ _ _
  refine W_block ?_
  refine W_loop (fun k σ w => σ 0 = .pointer (some ⟨kb, 0, none⟩) ∧ σ 2 = .int .i64 0 ∧ w0 = w) (0) ⟨rfl, rfl, rfl⟩ ?_
  rintro k σ w ⟨s0, s1, rfl⟩
  refine W_seq ?_
  refine W_seq ?_
  refine W_region rfl ?_
  refine S_move rfl rfl rfl (v := (.int .i64 0)) (s1) ?_
  refine S_move rfl rfl rfl (v := (.pointer (some ⟨kb, 0, none⟩))) (s0) ?_
  refine S_nil rfl rfl rfl (rfl) ?_
  refine S_field ft_assayerlaw01_Book_7 rfl rfl rfl (g := kb) (o := 0) (rfl) (o' := 7) rfl ?_
  refine S_load rfl rfl rfl (rfl) (LD.blk1 ti_Lassayerlaw01_heldTenant b0 (v := (.slice none 0 0)) rfl) ?_
  refine S_len Tryz.underlying38 rfl rfl rfl (rfl) (m := 0) (⟨_, _, rfl⟩) ?_
  refine S_bin rfl rfl rfl rfl rfl (rfl) (rfl) (v := .bool false) (by simp [binV]) ?_
  refine OPS.nil ?_
  change WP _ _ _ _ _ _
  refine W_cond rfl (b := false) (rfl) (fun h => (by cases h)) (fun _ => ?_)
  refine W_exit ?_
  change Fin' _ _ _ _ _ _
  exact End0 rfl rfl

set_option maxHeartbeats 400000 in
theorem growTenant_e (w0 : World) (kb : Nat) (no : Int) (vI vR : Value) (hb : Blk w0 kb (bookCs no vI vR) 45) :
    Ret Tryz.prog 119 [(.pointer (some ⟨kb, 0, none⟩))] w0 (fun r w1 => w0 = w1) := by
  have b0 : Blk w0 kb [(.int .i64 no), (.slice none 0 0), vI, (.slice none 0 0), (.slice none 0 0), (.slice none 0 0), (.slice none 0 0), (.slice none 0 0), vR, (.slice none 0 0), (.slice none 0 0), (.slice none 0 0), (.slice none 0 0)] 45 := hb
  refine Ret_of (n := 42) Tryz.func119 rfl rfl (Nat.le_of_ble_eq_true rfl) ?_
  refine W_seq ?_
  refine W_region rfl ?_
  refine S_assign rfl rfl rfl (v := (.int .i64 0)) (rfl) ?_
  refine OPS.nil ?_
  change WP _ _ _ _ _ _
  refine W_block ?_
  refine W_loop (fun k σ w => σ 0 = .pointer (some ⟨kb, 0, none⟩) ∧ σ 2 = .int .i64 0 ∧ w0 = w) (0) ⟨rfl, rfl, rfl⟩ ?_
  rintro k σ w ⟨s0, s1, rfl⟩
  refine W_seq ?_
  refine W_seq ?_
  refine W_region rfl ?_
  refine S_move rfl rfl rfl (v := (.int .i64 0)) (s1) ?_
  refine S_move rfl rfl rfl (v := (.pointer (some ⟨kb, 0, none⟩))) (s0) ?_
  refine S_nil rfl rfl rfl (rfl) ?_
  refine S_field ft_assayerlaw01_Book_7 rfl rfl rfl (g := kb) (o := 0) (rfl) (o' := 7) rfl ?_
  refine S_load rfl rfl rfl (rfl) (LD.blk1 ti_Lassayerlaw01_heldTenant b0 (v := (.slice none 0 0)) rfl) ?_
  refine S_len Tryz.underlying38 rfl rfl rfl (rfl) (m := 0) (⟨_, _, rfl⟩) ?_
  refine S_bin rfl rfl rfl rfl rfl (rfl) (rfl) (v := .bool false) (by simp [binV]) ?_
  refine OPS.nil ?_
  change WP _ _ _ _ _ _
  refine W_cond rfl (b := false) (rfl) (fun h => (by cases h)) (fun _ => ?_)
  refine W_exit ?_
  change Fin' _ _ _ _ _ _
  exact End0 rfl rfl

set_option maxHeartbeats 400000 in
theorem lookTenant_e (w0 : World) (kb : Nat) (no : Int) (vI vR : Value) (hb : Blk w0 kb (bookCs no vI vR) 45) :
    Ret Tryz.prog 131 [(.pointer (some ⟨kb, 0, none⟩))] w0 (fun r w1 => r = .bool true ∧ w0 = w1) := by
  have b0 : Blk w0 kb [(.int .i64 no), (.slice none 0 0), vI, (.slice none 0 0), (.slice none 0 0), (.slice none 0 0), (.slice none 0 0), (.slice none 0 0), vR, (.slice none 0 0), (.slice none 0 0), (.slice none 0 0), (.slice none 0 0)] 45 := hb
  refine Ret_of (n := 64) Tryz.func131 rfl rfl (Nat.le_of_ble_eq_true rfl) ?_
  refine W_seq ?_
  refine W_region rfl ?_
  refine S_assign rfl rfl rfl (v := (.bool false)) (rfl) ?_
  refine OPS.nil ?_
  change WP _ _ _ _ _ _
  refine W_seq ?_
  refine W_seq ?_
  refine W_region rfl ?_
  refine S_assign rfl rfl rfl (v := (.int .i64 0)) (rfl) ?_
  refine OPS.nil ?_
  change WP _ _ _ _ _ _
  refine W_block ?_
  refine W_loop (fun k σ w => σ 0 = .pointer (some ⟨kb, 0, none⟩) ∧ σ 3 = .int .i64 0 ∧ w0 = w) (0) ⟨rfl, rfl, rfl⟩ ?_
  rintro k σ w ⟨s0, s1, rfl⟩
  refine W_seq ?_
  refine W_seq ?_
  refine W_region rfl ?_
  refine S_move rfl rfl rfl (v := (.int .i64 0)) (s1) ?_
  refine S_move rfl rfl rfl (v := (.pointer (some ⟨kb, 0, none⟩))) (s0) ?_
  refine S_nil rfl rfl rfl (rfl) ?_
  refine S_field ft_assayerlaw01_Book_7 rfl rfl rfl (g := kb) (o := 0) (rfl) (o' := 7) rfl ?_
  refine S_load rfl rfl rfl (rfl) (LD.blk1 ti_Lassayerlaw01_heldTenant b0 (v := (.slice none 0 0)) rfl) ?_
  refine S_len Tryz.underlying38 rfl rfl rfl (rfl) (m := 0) (⟨_, _, rfl⟩) ?_
  refine S_bin rfl rfl rfl rfl rfl (rfl) (rfl) (v := .bool false) (by simp [binV]) ?_
  refine OPS.nil ?_
  change WP _ _ _ _ _ _
  refine W_cond rfl (b := false) (rfl) (fun h => (by cases h)) (fun _ => ?_)
  refine W_exit ?_
  change WP _ _ _ _ _ _
  refine W_seq ?_
  refine W_region rfl ?_
  refine S_assign rfl rfl rfl (v := (.bool true)) (rfl) ?_
  refine OPS.nil ?_
  change WP _ _ _ _ _ _
  refine W_ret ?_
  change Fin' _ _ _ _ _ _
  refine End1 (n := ⟨64, []⟩) (t := 2) rfl (by decide) (v := (.bool true)) (rfl) ?_
  exact ⟨rfl, rfl⟩

set_option maxHeartbeats 400000 in
theorem fillVar_e (w0 : World) (kb : Nat) (no : Int) (vI vR : Value) (hb : Blk w0 kb (bookCs no vI vR) 45) :
    Ret Tryz.prog 109 [(.pointer (some ⟨kb, 0, none⟩))] w0 (fun r w1 => w0 = w1) := by
  have b0 : Blk w0 kb [(.int .i64 no), (.slice none 0 0), vI, (.slice none 0 0), (.slice none 0 0), (.slice none 0 0), (.slice none 0 0), (.slice none 0 0), vR, (.slice none 0 0), (.slice none 0 0), (.slice none 0 0), (.slice none 0 0)] 45 := hb
  refine Ret_of (n := 35) Tryz.func109 rfl rfl (Nat.le_of_ble_eq_true rfl) ?_
  refine W_seq ?_
  refine W_region rfl ?_
  refine S_assign rfl rfl rfl (v := (.int .i64 0)) (rfl) ?_
  refine OPS.nil ?_
  change WP _ _ _ _ _ _
  refine W_block ?_
  refine W_loop (fun k σ w => σ 0 = .pointer (some ⟨kb, 0, none⟩) ∧ σ 2 = .int .i64 0 ∧ w0 = w) (0) ⟨rfl, rfl, rfl⟩ ?_
  rintro k σ w ⟨s0, s1, rfl⟩
  refine W_seq ?_
  refine W_seq ?_
  refine W_region rfl ?_
  refine S_move rfl rfl rfl (v := (.int .i64 0)) (s1) ?_
  refine S_move rfl rfl rfl (v := (.pointer (some ⟨kb, 0, none⟩))) (s0) ?_
  refine S_nil rfl rfl rfl (rfl) ?_
  refine S_field ft_assayerlaw01_Book_9 rfl rfl rfl (g := kb) (o := 0) (rfl) (o' := 9) rfl ?_
  refine S_load rfl rfl rfl (rfl) (LD.blk1 ti_Lassayerlaw01_heldVar b0 (v := (.slice none 0 0)) rfl) ?_
  refine S_len Tryz.underlying40 rfl rfl rfl (rfl) (m := 0) (⟨_, _, rfl⟩) ?_
  refine S_bin rfl rfl rfl rfl rfl (rfl) (rfl) (v := .bool false) (by simp [binV]) ?_
  refine OPS.nil ?_
  change WP _ _ _ _ _ _
  refine W_cond rfl (b := false) (rfl) (fun h => (by cases h)) (fun _ => ?_)
  refine W_exit ?_
  change Fin' _ _ _ _ _ _
  exact End0 rfl rfl

set_option maxHeartbeats 400000 in
theorem growVar_e (w0 : World) (kb : Nat) (no : Int) (vI vR : Value) (hb : Blk w0 kb (bookCs no vI vR) 45) :
    Ret Tryz.prog 121 [(.pointer (some ⟨kb, 0, none⟩))] w0 (fun r w1 => w0 = w1) := by
  have b0 : Blk w0 kb [(.int .i64 no), (.slice none 0 0), vI, (.slice none 0 0), (.slice none 0 0), (.slice none 0 0), (.slice none 0 0), (.slice none 0 0), vR, (.slice none 0 0), (.slice none 0 0), (.slice none 0 0), (.slice none 0 0)] 45 := hb
  refine Ret_of (n := 42) Tryz.func121 rfl rfl (Nat.le_of_ble_eq_true rfl) ?_
  refine W_seq ?_
  refine W_region rfl ?_
  refine S_assign rfl rfl rfl (v := (.int .i64 0)) (rfl) ?_
  refine OPS.nil ?_
  change WP _ _ _ _ _ _
  refine W_block ?_
  refine W_loop (fun k σ w => σ 0 = .pointer (some ⟨kb, 0, none⟩) ∧ σ 2 = .int .i64 0 ∧ w0 = w) (0) ⟨rfl, rfl, rfl⟩ ?_
  rintro k σ w ⟨s0, s1, rfl⟩
  refine W_seq ?_
  refine W_seq ?_
  refine W_region rfl ?_
  refine S_move rfl rfl rfl (v := (.int .i64 0)) (s1) ?_
  refine S_move rfl rfl rfl (v := (.pointer (some ⟨kb, 0, none⟩))) (s0) ?_
  refine S_nil rfl rfl rfl (rfl) ?_
  refine S_field ft_assayerlaw01_Book_9 rfl rfl rfl (g := kb) (o := 0) (rfl) (o' := 9) rfl ?_
  refine S_load rfl rfl rfl (rfl) (LD.blk1 ti_Lassayerlaw01_heldVar b0 (v := (.slice none 0 0)) rfl) ?_
  refine S_len Tryz.underlying40 rfl rfl rfl (rfl) (m := 0) (⟨_, _, rfl⟩) ?_
  refine S_bin rfl rfl rfl rfl rfl (rfl) (rfl) (v := .bool false) (by simp [binV]) ?_
  refine OPS.nil ?_
  change WP _ _ _ _ _ _
  refine W_cond rfl (b := false) (rfl) (fun h => (by cases h)) (fun _ => ?_)
  refine W_exit ?_
  change Fin' _ _ _ _ _ _
  exact End0 rfl rfl

set_option maxHeartbeats 400000 in
theorem lookVar_e (w0 : World) (kb : Nat) (no : Int) (vI vR : Value) (hb : Blk w0 kb (bookCs no vI vR) 45) :
    Ret Tryz.prog 133 [(.pointer (some ⟨kb, 0, none⟩))] w0 (fun r w1 => r = .bool true ∧ w0 = w1) := by
  have b0 : Blk w0 kb [(.int .i64 no), (.slice none 0 0), vI, (.slice none 0 0), (.slice none 0 0), (.slice none 0 0), (.slice none 0 0), (.slice none 0 0), vR, (.slice none 0 0), (.slice none 0 0), (.slice none 0 0), (.slice none 0 0)] 45 := hb
  refine Ret_of (n := 64) Tryz.func133 rfl rfl (Nat.le_of_ble_eq_true rfl) ?_
  refine W_seq ?_
  refine W_region rfl ?_
  refine S_assign rfl rfl rfl (v := (.bool false)) (rfl) ?_
  refine OPS.nil ?_
  change WP _ _ _ _ _ _
  refine W_seq ?_
  refine W_seq ?_
  refine W_region rfl ?_
  refine S_assign rfl rfl rfl (v := (.int .i64 0)) (rfl) ?_
  refine OPS.nil ?_
  change WP _ _ _ _ _ _
  refine W_block ?_
  refine W_loop (fun k σ w => σ 0 = .pointer (some ⟨kb, 0, none⟩) ∧ σ 3 = .int .i64 0 ∧ w0 = w) (0) ⟨rfl, rfl, rfl⟩ ?_
  rintro k σ w ⟨s0, s1, rfl⟩
  refine W_seq ?_
  refine W_seq ?_
  refine W_region rfl ?_
  refine S_move rfl rfl rfl (v := (.int .i64 0)) (s1) ?_
  refine S_move rfl rfl rfl (v := (.pointer (some ⟨kb, 0, none⟩))) (s0) ?_
  refine S_nil rfl rfl rfl (rfl) ?_
  refine S_field ft_assayerlaw01_Book_9 rfl rfl rfl (g := kb) (o := 0) (rfl) (o' := 9) rfl ?_
  refine S_load rfl rfl rfl (rfl) (LD.blk1 ti_Lassayerlaw01_heldVar b0 (v := (.slice none 0 0)) rfl) ?_
  refine S_len Tryz.underlying40 rfl rfl rfl (rfl) (m := 0) (⟨_, _, rfl⟩) ?_
  refine S_bin rfl rfl rfl rfl rfl (rfl) (rfl) (v := .bool false) (by simp [binV]) ?_
  refine OPS.nil ?_
  change WP _ _ _ _ _ _
  refine W_cond rfl (b := false) (rfl) (fun h => (by cases h)) (fun _ => ?_)
  refine W_exit ?_
  change WP _ _ _ _ _ _
  refine W_seq ?_
  refine W_region rfl ?_
  refine S_assign rfl rfl rfl (v := (.bool true)) (rfl) ?_
  refine OPS.nil ?_
  change WP _ _ _ _ _ _
  refine W_ret ?_
  change Fin' _ _ _ _ _ _
  refine End1 (n := ⟨64, []⟩) (t := 2) rfl (by decide) (v := (.bool true)) (rfl) ?_
  exact ⟨rfl, rfl⟩

set_option maxHeartbeats 400000 in
theorem fillRow_e (w0 : World) (kb : Nat) (no : Int) (vI vR : Value) (hb : Blk w0 kb (bookCs no vI vR) 45) :
    Ret Tryz.prog 110 [(.pointer (some ⟨kb, 0, none⟩))] w0 (fun r w1 => w0 = w1) := by
  have b0 : Blk w0 kb [(.int .i64 no), (.slice none 0 0), vI, (.slice none 0 0), (.slice none 0 0), (.slice none 0 0), (.slice none 0 0), (.slice none 0 0), vR, (.slice none 0 0), (.slice none 0 0), (.slice none 0 0), (.slice none 0 0)] 45 := hb
  refine Ret_of (n := 35) Tryz.func110 rfl rfl (Nat.le_of_ble_eq_true rfl) ?_
  refine W_seq ?_
  refine W_region rfl ?_
  refine S_assign rfl rfl rfl (v := (.int .i64 0)) (rfl) ?_
  refine OPS.nil ?_
  change WP _ _ _ _ _ _
  refine W_block ?_
  refine W_loop (fun k σ w => σ 0 = .pointer (some ⟨kb, 0, none⟩) ∧ σ 2 = .int .i64 0 ∧ w0 = w) (0) ⟨rfl, rfl, rfl⟩ ?_
  rintro k σ w ⟨s0, s1, rfl⟩
  refine W_seq ?_
  refine W_seq ?_
  refine W_region rfl ?_
  refine S_move rfl rfl rfl (v := (.int .i64 0)) (s1) ?_
  refine S_move rfl rfl rfl (v := (.pointer (some ⟨kb, 0, none⟩))) (s0) ?_
  refine S_nil rfl rfl rfl (rfl) ?_
  refine S_field ft_assayerlaw01_Book_10 rfl rfl rfl (g := kb) (o := 0) (rfl) (o' := 10) rfl ?_
  refine S_load rfl rfl rfl (rfl) (LD.blk1 ti_Lassayerlaw01_heldRow b0 (v := (.slice none 0 0)) rfl) ?_
  refine S_len Tryz.underlying41 rfl rfl rfl (rfl) (m := 0) (⟨_, _, rfl⟩) ?_
  refine S_bin rfl rfl rfl rfl rfl (rfl) (rfl) (v := .bool false) (by simp [binV]) ?_
  refine OPS.nil ?_
  change WP _ _ _ _ _ _
  refine W_cond rfl (b := false) (rfl) (fun h => (by cases h)) (fun _ => ?_)
  refine W_exit ?_
  change Fin' _ _ _ _ _ _
  exact End0 rfl rfl

set_option maxHeartbeats 400000 in
theorem growRow_e (w0 : World) (kb : Nat) (no : Int) (vI vR : Value) (hb : Blk w0 kb (bookCs no vI vR) 45) :
    Ret Tryz.prog 122 [(.pointer (some ⟨kb, 0, none⟩))] w0 (fun r w1 => w0 = w1) := by
  have b0 : Blk w0 kb [(.int .i64 no), (.slice none 0 0), vI, (.slice none 0 0), (.slice none 0 0), (.slice none 0 0), (.slice none 0 0), (.slice none 0 0), vR, (.slice none 0 0), (.slice none 0 0), (.slice none 0 0), (.slice none 0 0)] 45 := hb
  refine Ret_of (n := 42) Tryz.func122 rfl rfl (Nat.le_of_ble_eq_true rfl) ?_
  refine W_seq ?_
  refine W_region rfl ?_
  refine S_assign rfl rfl rfl (v := (.int .i64 0)) (rfl) ?_
  refine OPS.nil ?_
  change WP _ _ _ _ _ _
  refine W_block ?_
  refine W_loop (fun k σ w => σ 0 = .pointer (some ⟨kb, 0, none⟩) ∧ σ 2 = .int .i64 0 ∧ w0 = w) (0) ⟨rfl, rfl, rfl⟩ ?_
  rintro k σ w ⟨s0, s1, rfl⟩
  refine W_seq ?_
  refine W_seq ?_
  refine W_region rfl ?_
  refine S_move rfl rfl rfl (v := (.int .i64 0)) (s1) ?_
  refine S_move rfl rfl rfl (v := (.pointer (some ⟨kb, 0, none⟩))) (s0) ?_
  refine S_nil rfl rfl rfl (rfl) ?_
  refine S_field ft_assayerlaw01_Book_10 rfl rfl rfl (g := kb) (o := 0) (rfl) (o' := 10) rfl ?_
  refine S_load rfl rfl rfl (rfl) (LD.blk1 ti_Lassayerlaw01_heldRow b0 (v := (.slice none 0 0)) rfl) ?_
  refine S_len Tryz.underlying41 rfl rfl rfl (rfl) (m := 0) (⟨_, _, rfl⟩) ?_
  refine S_bin rfl rfl rfl rfl rfl (rfl) (rfl) (v := .bool false) (by simp [binV]) ?_
  refine OPS.nil ?_
  change WP _ _ _ _ _ _
  refine W_cond rfl (b := false) (rfl) (fun h => (by cases h)) (fun _ => ?_)
  refine W_exit ?_
  change Fin' _ _ _ _ _ _
  exact End0 rfl rfl

set_option maxHeartbeats 400000 in
theorem lookRow_e (w0 : World) (kb : Nat) (no : Int) (vI vR : Value) (hb : Blk w0 kb (bookCs no vI vR) 45) :
    Ret Tryz.prog 134 [(.pointer (some ⟨kb, 0, none⟩))] w0 (fun r w1 => r = .bool true ∧ w0 = w1) := by
  have b0 : Blk w0 kb [(.int .i64 no), (.slice none 0 0), vI, (.slice none 0 0), (.slice none 0 0), (.slice none 0 0), (.slice none 0 0), (.slice none 0 0), vR, (.slice none 0 0), (.slice none 0 0), (.slice none 0 0), (.slice none 0 0)] 45 := hb
  refine Ret_of (n := 64) Tryz.func134 rfl rfl (Nat.le_of_ble_eq_true rfl) ?_
  refine W_seq ?_
  refine W_region rfl ?_
  refine S_assign rfl rfl rfl (v := (.bool false)) (rfl) ?_
  refine OPS.nil ?_
  change WP _ _ _ _ _ _
  refine W_seq ?_
  refine W_seq ?_
  refine W_region rfl ?_
  refine S_assign rfl rfl rfl (v := (.int .i64 0)) (rfl) ?_
  refine OPS.nil ?_
  change WP _ _ _ _ _ _
  refine W_block ?_
  refine W_loop (fun k σ w => σ 0 = .pointer (some ⟨kb, 0, none⟩) ∧ σ 3 = .int .i64 0 ∧ w0 = w) (0) ⟨rfl, rfl, rfl⟩ ?_
  rintro k σ w ⟨s0, s1, rfl⟩
  refine W_seq ?_
  refine W_seq ?_
  refine W_region rfl ?_
  refine S_move rfl rfl rfl (v := (.int .i64 0)) (s1) ?_
  refine S_move rfl rfl rfl (v := (.pointer (some ⟨kb, 0, none⟩))) (s0) ?_
  refine S_nil rfl rfl rfl (rfl) ?_
  refine S_field ft_assayerlaw01_Book_10 rfl rfl rfl (g := kb) (o := 0) (rfl) (o' := 10) rfl ?_
  refine S_load rfl rfl rfl (rfl) (LD.blk1 ti_Lassayerlaw01_heldRow b0 (v := (.slice none 0 0)) rfl) ?_
  refine S_len Tryz.underlying41 rfl rfl rfl (rfl) (m := 0) (⟨_, _, rfl⟩) ?_
  refine S_bin rfl rfl rfl rfl rfl (rfl) (rfl) (v := .bool false) (by simp [binV]) ?_
  refine OPS.nil ?_
  change WP _ _ _ _ _ _
  refine W_cond rfl (b := false) (rfl) (fun h => (by cases h)) (fun _ => ?_)
  refine W_exit ?_
  change WP _ _ _ _ _ _
  refine W_seq ?_
  refine W_region rfl ?_
  refine S_assign rfl rfl rfl (v := (.bool true)) (rfl) ?_
  refine OPS.nil ?_
  change WP _ _ _ _ _ _
  refine W_ret ?_
  change Fin' _ _ _ _ _ _
  refine End1 (n := ⟨64, []⟩) (t := 2) rfl (by decide) (v := (.bool true)) (rfl) ?_
  exact ⟨rfl, rfl⟩

set_option maxHeartbeats 400000 in
theorem fillNode_e (w0 : World) (kb : Nat) (no : Int) (vI vR : Value) (hb : Blk w0 kb (bookCs no vI vR) 45) :
    Ret Tryz.prog 111 [(.pointer (some ⟨kb, 0, none⟩))] w0 (fun r w1 => w0 = w1) := by
  have b0 : Blk w0 kb [(.int .i64 no), (.slice none 0 0), vI, (.slice none 0 0), (.slice none 0 0), (.slice none 0 0), (.slice none 0 0), (.slice none 0 0), vR, (.slice none 0 0), (.slice none 0 0), (.slice none 0 0), (.slice none 0 0)] 45 := hb
  refine Ret_of (n := 35) Tryz.func111 rfl rfl (Nat.le_of_ble_eq_true rfl) ?_
  refine W_seq ?_
  refine W_region rfl ?_
  refine S_assign rfl rfl rfl (v := (.int .i64 0)) (rfl) ?_
  refine OPS.nil ?_
  change WP _ _ _ _ _ _
  refine W_block ?_
  refine W_loop (fun k σ w => σ 0 = .pointer (some ⟨kb, 0, none⟩) ∧ σ 2 = .int .i64 0 ∧ w0 = w) (0) ⟨rfl, rfl, rfl⟩ ?_
  rintro k σ w ⟨s0, s1, rfl⟩
  refine W_seq ?_
  refine W_seq ?_
  refine W_region rfl ?_
  refine S_move rfl rfl rfl (v := (.int .i64 0)) (s1) ?_
  refine S_move rfl rfl rfl (v := (.pointer (some ⟨kb, 0, none⟩))) (s0) ?_
  refine S_nil rfl rfl rfl (rfl) ?_
  refine S_field ft_assayerlaw01_Book_11 rfl rfl rfl (g := kb) (o := 0) (rfl) (o' := 11) rfl ?_
  refine S_load rfl rfl rfl (rfl) (LD.blk1 ti_Lassayerlaw01_heldNode b0 (v := (.slice none 0 0)) rfl) ?_
  refine S_len Tryz.underlying42 rfl rfl rfl (rfl) (m := 0) (⟨_, _, rfl⟩) ?_
  refine S_bin rfl rfl rfl rfl rfl (rfl) (rfl) (v := .bool false) (by simp [binV]) ?_
  refine OPS.nil ?_
  change WP _ _ _ _ _ _
  refine W_cond rfl (b := false) (rfl) (fun h => (by cases h)) (fun _ => ?_)
  refine W_exit ?_
  change Fin' _ _ _ _ _ _
  exact End0 rfl rfl

set_option maxHeartbeats 400000 in
theorem growNode_e (w0 : World) (kb : Nat) (no : Int) (vI vR : Value) (hb : Blk w0 kb (bookCs no vI vR) 45) :
    Ret Tryz.prog 123 [(.pointer (some ⟨kb, 0, none⟩))] w0 (fun r w1 => w0 = w1) := by
  have b0 : Blk w0 kb [(.int .i64 no), (.slice none 0 0), vI, (.slice none 0 0), (.slice none 0 0), (.slice none 0 0), (.slice none 0 0), (.slice none 0 0), vR, (.slice none 0 0), (.slice none 0 0), (.slice none 0 0), (.slice none 0 0)] 45 := hb
  refine Ret_of (n := 42) Tryz.func123 rfl rfl (Nat.le_of_ble_eq_true rfl) ?_
  refine W_seq ?_
  refine W_region rfl ?_
  refine S_assign rfl rfl rfl (v := (.int .i64 0)) (rfl) ?_
  refine OPS.nil ?_
  change WP _ _ _ _ _ _
  refine W_block ?_
  refine W_loop (fun k σ w => σ 0 = .pointer (some ⟨kb, 0, none⟩) ∧ σ 2 = .int .i64 0 ∧ w0 = w) (0) ⟨rfl, rfl, rfl⟩ ?_
  rintro k σ w ⟨s0, s1, rfl⟩
  refine W_seq ?_
  refine W_seq ?_
  refine W_region rfl ?_
  refine S_move rfl rfl rfl (v := (.int .i64 0)) (s1) ?_
  refine S_move rfl rfl rfl (v := (.pointer (some ⟨kb, 0, none⟩))) (s0) ?_
  refine S_nil rfl rfl rfl (rfl) ?_
  refine S_field ft_assayerlaw01_Book_11 rfl rfl rfl (g := kb) (o := 0) (rfl) (o' := 11) rfl ?_
  refine S_load rfl rfl rfl (rfl) (LD.blk1 ti_Lassayerlaw01_heldNode b0 (v := (.slice none 0 0)) rfl) ?_
  refine S_len Tryz.underlying42 rfl rfl rfl (rfl) (m := 0) (⟨_, _, rfl⟩) ?_
  refine S_bin rfl rfl rfl rfl rfl (rfl) (rfl) (v := .bool false) (by simp [binV]) ?_
  refine OPS.nil ?_
  change WP _ _ _ _ _ _
  refine W_cond rfl (b := false) (rfl) (fun h => (by cases h)) (fun _ => ?_)
  refine W_exit ?_
  change Fin' _ _ _ _ _ _
  exact End0 rfl rfl

set_option maxHeartbeats 400000 in
theorem lookNode_e (w0 : World) (kb : Nat) (no : Int) (vI vR : Value) (hb : Blk w0 kb (bookCs no vI vR) 45) :
    Ret Tryz.prog 135 [(.pointer (some ⟨kb, 0, none⟩))] w0 (fun r w1 => r = .bool true ∧ w0 = w1) := by
  have b0 : Blk w0 kb [(.int .i64 no), (.slice none 0 0), vI, (.slice none 0 0), (.slice none 0 0), (.slice none 0 0), (.slice none 0 0), (.slice none 0 0), vR, (.slice none 0 0), (.slice none 0 0), (.slice none 0 0), (.slice none 0 0)] 45 := hb
  refine Ret_of (n := 64) Tryz.func135 rfl rfl (Nat.le_of_ble_eq_true rfl) ?_
  refine W_seq ?_
  refine W_region rfl ?_
  refine S_assign rfl rfl rfl (v := (.bool false)) (rfl) ?_
  refine OPS.nil ?_
  change WP _ _ _ _ _ _
  refine W_seq ?_
  refine W_seq ?_
  refine W_region rfl ?_
  refine S_assign rfl rfl rfl (v := (.int .i64 0)) (rfl) ?_
  refine OPS.nil ?_
  change WP _ _ _ _ _ _
  refine W_block ?_
  refine W_loop (fun k σ w => σ 0 = .pointer (some ⟨kb, 0, none⟩) ∧ σ 3 = .int .i64 0 ∧ w0 = w) (0) ⟨rfl, rfl, rfl⟩ ?_
  rintro k σ w ⟨s0, s1, rfl⟩
  refine W_seq ?_
  refine W_seq ?_
  refine W_region rfl ?_
  refine S_move rfl rfl rfl (v := (.int .i64 0)) (s1) ?_
  refine S_move rfl rfl rfl (v := (.pointer (some ⟨kb, 0, none⟩))) (s0) ?_
  refine S_nil rfl rfl rfl (rfl) ?_
  refine S_field ft_assayerlaw01_Book_11 rfl rfl rfl (g := kb) (o := 0) (rfl) (o' := 11) rfl ?_
  refine S_load rfl rfl rfl (rfl) (LD.blk1 ti_Lassayerlaw01_heldNode b0 (v := (.slice none 0 0)) rfl) ?_
  refine S_len Tryz.underlying42 rfl rfl rfl (rfl) (m := 0) (⟨_, _, rfl⟩) ?_
  refine S_bin rfl rfl rfl rfl rfl (rfl) (rfl) (v := .bool false) (by simp [binV]) ?_
  refine OPS.nil ?_
  change WP _ _ _ _ _ _
  refine W_cond rfl (b := false) (rfl) (fun h => (by cases h)) (fun _ => ?_)
  refine W_exit ?_
  change WP _ _ _ _ _ _
  refine W_seq ?_
  refine W_region rfl ?_
  refine S_assign rfl rfl rfl (v := (.bool true)) (rfl) ?_
  refine OPS.nil ?_
  change WP _ _ _ _ _ _
  refine W_ret ?_
  change Fin' _ _ _ _ _ _
  refine End1 (n := ⟨64, []⟩) (t := 2) rfl (by decide) (v := (.bool true)) (rfl) ?_
  exact ⟨rfl, rfl⟩

set_option maxHeartbeats 400000 in
theorem fillJob_e (w0 : World) (kb : Nat) (no : Int) (vI vR : Value) (hb : Blk w0 kb (bookCs no vI vR) 45) :
    Ret Tryz.prog 112 [(.pointer (some ⟨kb, 0, none⟩))] w0 (fun r w1 => w0 = w1) := by
  have b0 : Blk w0 kb [(.int .i64 no), (.slice none 0 0), vI, (.slice none 0 0), (.slice none 0 0), (.slice none 0 0), (.slice none 0 0), (.slice none 0 0), vR, (.slice none 0 0), (.slice none 0 0), (.slice none 0 0), (.slice none 0 0)] 45 := hb
  refine Ret_of (n := 35) Tryz.func112 rfl rfl (Nat.le_of_ble_eq_true rfl) ?_
  refine W_seq ?_
  refine W_region rfl ?_
  refine S_assign rfl rfl rfl (v := (.int .i64 0)) (rfl) ?_
  refine OPS.nil ?_
  change WP _ _ _ _ _ _
  refine W_block ?_
  refine W_loop (fun k σ w => σ 0 = .pointer (some ⟨kb, 0, none⟩) ∧ σ 2 = .int .i64 0 ∧ w0 = w) (0) ⟨rfl, rfl, rfl⟩ ?_
  rintro k σ w ⟨s0, s1, rfl⟩
  refine W_seq ?_
  refine W_seq ?_
  refine W_region rfl ?_
  refine S_move rfl rfl rfl (v := (.int .i64 0)) (s1) ?_
  refine S_move rfl rfl rfl (v := (.pointer (some ⟨kb, 0, none⟩))) (s0) ?_
  refine S_nil rfl rfl rfl (rfl) ?_
  refine S_field ft_assayerlaw01_Book_12 rfl rfl rfl (g := kb) (o := 0) (rfl) (o' := 12) rfl ?_
  refine S_load rfl rfl rfl (rfl) (LD.blk1 ti_Lassayerlaw01_heldJob b0 (v := (.slice none 0 0)) rfl) ?_
  refine S_len Tryz.underlying43 rfl rfl rfl (rfl) (m := 0) (⟨_, _, rfl⟩) ?_
  refine S_bin rfl rfl rfl rfl rfl (rfl) (rfl) (v := .bool false) (by simp [binV]) ?_
  refine OPS.nil ?_
  change WP _ _ _ _ _ _
  refine W_cond rfl (b := false) (rfl) (fun h => (by cases h)) (fun _ => ?_)
  refine W_exit ?_
  change Fin' _ _ _ _ _ _
  exact End0 rfl rfl

set_option maxHeartbeats 400000 in
theorem growJob_e (w0 : World) (kb : Nat) (no : Int) (vI vR : Value) (hb : Blk w0 kb (bookCs no vI vR) 45) :
    Ret Tryz.prog 124 [(.pointer (some ⟨kb, 0, none⟩))] w0 (fun r w1 => w0 = w1) := by
  have b0 : Blk w0 kb [(.int .i64 no), (.slice none 0 0), vI, (.slice none 0 0), (.slice none 0 0), (.slice none 0 0), (.slice none 0 0), (.slice none 0 0), vR, (.slice none 0 0), (.slice none 0 0), (.slice none 0 0), (.slice none 0 0)] 45 := hb
  refine Ret_of (n := 42) Tryz.func124 rfl rfl (Nat.le_of_ble_eq_true rfl) ?_
  refine W_seq ?_
  refine W_region rfl ?_
  refine S_assign rfl rfl rfl (v := (.int .i64 0)) (rfl) ?_
  refine OPS.nil ?_
  change WP _ _ _ _ _ _
  refine W_block ?_
  refine W_loop (fun k σ w => σ 0 = .pointer (some ⟨kb, 0, none⟩) ∧ σ 2 = .int .i64 0 ∧ w0 = w) (0) ⟨rfl, rfl, rfl⟩ ?_
  rintro k σ w ⟨s0, s1, rfl⟩
  refine W_seq ?_
  refine W_seq ?_
  refine W_region rfl ?_
  refine S_move rfl rfl rfl (v := (.int .i64 0)) (s1) ?_
  refine S_move rfl rfl rfl (v := (.pointer (some ⟨kb, 0, none⟩))) (s0) ?_
  refine S_nil rfl rfl rfl (rfl) ?_
  refine S_field ft_assayerlaw01_Book_12 rfl rfl rfl (g := kb) (o := 0) (rfl) (o' := 12) rfl ?_
  refine S_load rfl rfl rfl (rfl) (LD.blk1 ti_Lassayerlaw01_heldJob b0 (v := (.slice none 0 0)) rfl) ?_
  refine S_len Tryz.underlying43 rfl rfl rfl (rfl) (m := 0) (⟨_, _, rfl⟩) ?_
  refine S_bin rfl rfl rfl rfl rfl (rfl) (rfl) (v := .bool false) (by simp [binV]) ?_
  refine OPS.nil ?_
  change WP _ _ _ _ _ _
  refine W_cond rfl (b := false) (rfl) (fun h => (by cases h)) (fun _ => ?_)
  refine W_exit ?_
  change Fin' _ _ _ _ _ _
  exact End0 rfl rfl

set_option maxHeartbeats 400000 in
theorem lookJob_e (w0 : World) (kb : Nat) (no : Int) (vI vR : Value) (hb : Blk w0 kb (bookCs no vI vR) 45) :
    Ret Tryz.prog 136 [(.pointer (some ⟨kb, 0, none⟩))] w0 (fun r w1 => r = .bool true ∧ w0 = w1) := by
  have b0 : Blk w0 kb [(.int .i64 no), (.slice none 0 0), vI, (.slice none 0 0), (.slice none 0 0), (.slice none 0 0), (.slice none 0 0), (.slice none 0 0), vR, (.slice none 0 0), (.slice none 0 0), (.slice none 0 0), (.slice none 0 0)] 45 := hb
  refine Ret_of (n := 64) Tryz.func136 rfl rfl (Nat.le_of_ble_eq_true rfl) ?_
  refine W_seq ?_
  refine W_region rfl ?_
  refine S_assign rfl rfl rfl (v := (.bool false)) (rfl) ?_
  refine OPS.nil ?_
  change WP _ _ _ _ _ _
  refine W_seq ?_
  refine W_seq ?_
  refine W_region rfl ?_
  refine S_assign rfl rfl rfl (v := (.int .i64 0)) (rfl) ?_
  refine OPS.nil ?_
  change WP _ _ _ _ _ _
  refine W_block ?_
  refine W_loop (fun k σ w => σ 0 = .pointer (some ⟨kb, 0, none⟩) ∧ σ 3 = .int .i64 0 ∧ w0 = w) (0) ⟨rfl, rfl, rfl⟩ ?_
  rintro k σ w ⟨s0, s1, rfl⟩
  refine W_seq ?_
  refine W_seq ?_
  refine W_region rfl ?_
  refine S_move rfl rfl rfl (v := (.int .i64 0)) (s1) ?_
  refine S_move rfl rfl rfl (v := (.pointer (some ⟨kb, 0, none⟩))) (s0) ?_
  refine S_nil rfl rfl rfl (rfl) ?_
  refine S_field ft_assayerlaw01_Book_12 rfl rfl rfl (g := kb) (o := 0) (rfl) (o' := 12) rfl ?_
  refine S_load rfl rfl rfl (rfl) (LD.blk1 ti_Lassayerlaw01_heldJob b0 (v := (.slice none 0 0)) rfl) ?_
  refine S_len Tryz.underlying43 rfl rfl rfl (rfl) (m := 0) (⟨_, _, rfl⟩) ?_
  refine S_bin rfl rfl rfl rfl rfl (rfl) (rfl) (v := .bool false) (by simp [binV]) ?_
  refine OPS.nil ?_
  change WP _ _ _ _ _ _
  refine W_cond rfl (b := false) (rfl) (fun h => (by cases h)) (fun _ => ?_)
  refine W_exit ?_
  change WP _ _ _ _ _ _
  refine W_seq ?_
  refine W_region rfl ?_
  refine S_assign rfl rfl rfl (v := (.bool true)) (rfl) ?_
  refine OPS.nil ?_
  change WP _ _ _ _ _ _
  refine W_ret ?_
  change Fin' _ _ _ _ _ _
  refine End1 (n := ⟨64, []⟩) (t := 2) rfl (by decide) (v := (.bool true)) (rfl) ?_
  exact ⟨rfl, rfl⟩

end Go.Proofs.YtccmicegihlfbaaGreatDoor
