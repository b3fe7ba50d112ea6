import Derived.Test.YtccmicegihlfbaaGreatDoorRm6
import Derived.ProofKit
import Derived.LaidMore
import Derived.OpenShut
import Derived.Stop.Joined
import Derived.SevenTiedAt
import Derived.ReadAgain
import Derived.Deep.Slices
set_option linter.unusedVariables false
set_option linter.unusedSimpArgs false

/- The rounds of a book: kinds of which there is no list. -/
namespace Go.Proofs.YtccmicegihlfbaaGreatDoor
open Go.RowKit

set_option maxHeartbeats 400000 in
theorem fillByte_e (w0 : World) (kb : Nat) (no : Int) (vI vR : Value) (hb : Blk w0 kb (bookCs no vI vR) 45) :
    Ret Tryz.prog 101 [(.pointer (some ⟨kb, 0, none⟩))] w0 (fun r w1 => w0 = w1) := by
 have b0 : Blk w0 kb [(.int .i64 no), (.slice none 0 0), vI, (.slice none 0 0), (.slice none 0 0), (.slice none 0 0), (.slice none 0 0), (.slice none 0 0), vR, (.slice none 0 0), (.slice none 0 0), (.slice none 0 0), (.slice none 0 0)] 45 := hb
 refine Ret_of (n := 35) Tryz.func101 rfl rfl (Nat.le_of_ble_eq_true rfl) ?_
 refine W_seq ?_
 refine W_region rfl ?_
 refine S_assign rfl rfl rfl (v := (.int .i64 0)) (rfl) ?_
 refine OPS.nil ?_
 change WP _ _ _ _ _ _
 refine W_block ?_
 refine W_loop (fun k σ w => σ 0 = .pointer (some ⟨kb, 0, none⟩) ∧ σ 2 = .int .i64 0 ∧ w0 = w) (0) ⟨rfl, rfl, rfl⟩ ?_
 rintro k σ w ⟨s0, s1, rfl⟩
 refine W_seq ?_
 refine W_seq ?_
 refine W_region rfl ?_
 refine S_move rfl rfl rfl (v := (.int .i64 0)) (s1) ?_
 refine S_move rfl rfl rfl (v := (.pointer (some ⟨kb, 0, none⟩))) (s0) ?_
 refine S_nil rfl rfl rfl (rfl) ?_
 refine S_field ft_assayerlaw01_Book_1 rfl rfl rfl (g := kb) (o := 0) (rfl) (o' := 1) rfl ?_
 refine S_load rfl rfl rfl (rfl) (LD.blk1 ti_Lassayerlaw01_heldByte b0 (v := (.slice none 0 0)) rfl) ?_
 refine S_len Tryz.underlying32 rfl rfl rfl (rfl) (m := 0) (⟨_, _, rfl⟩) ?_
 refine S_bin rfl rfl rfl rfl rfl (rfl) (rfl) (v := .bool false) (by simp [binV]) ?_
 refine OPS.nil ?_
 change WP _ _ _ _ _ _
 refine W_cond rfl (b := false) (rfl) (fun h => (by cases h)) (fun _ => ?_)
 refine W_exit ?_
 change Fin' _ _ _ _ _ _
 refine End0 rfl ?_
 exact rfl

set_option maxHeartbeats 400000 in
theorem growByte_e (w0 : World) (kb : Nat) (no : Int) (vI vR : Value) (hb : Blk w0 kb (bookCs no vI vR) 45) :
    Ret Tryz.prog 113 [(.pointer (some ⟨kb, 0, none⟩))] w0 (fun r w1 => w0 = w1) := by
 have b0 : Blk w0 kb [(.int .i64 no), (.slice none 0 0), vI, (.slice none 0 0), (.slice none 0 0), (.slice none 0 0), (.slice none 0 0), (.slice none 0 0), vR, (.slice none 0 0), (.slice none 0 0), (.slice none 0 0), (.slice none 0 0)] 45 := hb
 refine Ret_of (n := 42) Tryz.func113 rfl rfl (Nat.le_of_ble_eq_true rfl) ?_
 refine W_seq ?_
 refine W_region rfl ?_
 refine S_assign rfl rfl rfl (v := (.int .i64 0)) (rfl) ?_
 refine OPS.nil ?_
 change WP _ _ _ _ _ _
 refine W_block ?_
 refine W_loop (fun k σ w => σ 0 = .pointer (some ⟨kb, 0, none⟩) ∧ σ 2 = .int .i64 0 ∧ w0 = w) (0) ⟨rfl, rfl, rfl⟩ ?_
 rintro k σ w ⟨s0, s1, rfl⟩
 refine W_seq ?_
 refine W_seq ?_
 refine W_region rfl ?_
 refine S_move rfl rfl rfl (v := (.int .i64 0)) (s1) ?_
 refine S_move rfl rfl rfl (v := (.pointer (some ⟨kb, 0, none⟩))) (s0) ?_
 refine S_nil rfl rfl rfl (rfl) ?_
 refine S_field ft_assayerlaw01_Book_1 rfl rfl rfl (g := kb) (o := 0) (rfl) (o' := 1) rfl ?_
 refine S_load rfl rfl rfl (rfl) (LD.blk1 ti_Lassayerlaw01_heldByte b0 (v := (.slice none 0 0)) rfl) ?_
 refine S_len Tryz.underlying32 rfl rfl rfl (rfl) (m := 0) (⟨_, _, rfl⟩) ?_
 refine S_bin rfl rfl rfl rfl rfl (rfl) (rfl) (v := .bool false) (by simp [binV]) ?_
 refine OPS.nil ?_
 change WP _ _ _ _ _ _
 refine W_cond rfl (b := false) (rfl) (fun h => (by cases h)) (fun _ => ?_)
 refine W_exit ?_
 change Fin' _ _ _ _ _ _
 refine End0 rfl ?_
 exact rfl

set_option maxHeartbeats 400000 in
theorem lookByte_e (w0 : World) (kb : Nat) (no : Int) (vI vR : Value) (hb : Blk w0 kb (bookCs no vI vR) 45) :
    Ret Tryz.prog 125 [(.pointer (some ⟨kb, 0, none⟩))] w0 (fun r w1 => r = .bool true ∧ w0 = w1) := by
 have b0 : Blk w0 kb [(.int .i64 no), (.slice none 0 0), vI, (.slice none 0 0), (.slice none 0 0), (.slice none 0 0), (.slice none 0 0), (.slice none 0 0), vR, (.slice none 0 0), (.slice none 0 0), (.slice none 0 0), (.slice none 0 0)] 45 := hb
 refine Ret_of (n := 64) Tryz.func125 rfl rfl (Nat.le_of_ble_eq_true rfl) ?_
 refine W_seq ?_
 refine W_region rfl ?_
 refine S_assign rfl rfl rfl (v := (.bool false)) (rfl) ?_
 refine OPS.nil ?_
 change WP _ _ _ _ _ _
 refine W_seq ?_
 refine W_seq ?_
 refine W_region rfl ?_
 refine S_assign rfl rfl rfl (v := (.int .i64 0)) (rfl) ?_
 refine OPS.nil ?_
 change WP _ _ _ _ _ _
 refine W_block ?_
 refine W_loop (fun k σ w => σ 0 = .pointer (some ⟨kb, 0, none⟩) ∧ σ 3 = .int .i64 0 ∧ w0 = w) (0) ⟨rfl, rfl, rfl⟩ ?_
 rintro k σ w ⟨s0, s1, rfl⟩
 refine W_seq ?_
 refine W_seq ?_
 refine W_region rfl ?_
 refine S_move rfl rfl rfl (v := (.int .i64 0)) (s1) ?_
 refine S_move rfl rfl rfl (v := (.pointer (some ⟨kb, 0, none⟩))) (s0) ?_
 refine S_nil rfl rfl rfl (rfl) ?_
 refine S_field ft_assayerlaw01_Book_1 rfl rfl rfl (g := kb) (o := 0) (rfl) (o' := 1) rfl ?_
 refine S_load rfl rfl rfl (rfl) (LD.blk1 ti_Lassayerlaw01_heldByte b0 (v := (.slice none 0 0)) rfl) ?_
 refine S_len Tryz.underlying32 rfl rfl rfl (rfl) (m := 0) (⟨_, _, rfl⟩) ?_
 refine S_bin rfl rfl rfl rfl rfl (rfl) (rfl) (v := .bool false) (by simp [binV]) ?_
 refine OPS.nil ?_
 change WP _ _ _ _ _ _
 refine W_cond rfl (b := false) (rfl) (fun h => (by cases h)) (fun _ => ?_)
 refine W_exit ?_
 change WP _ _ _ _ _ _
 refine W_seq ?_
 refine W_region rfl ?_
 refine S_assign rfl rfl rfl (v := (.bool true)) (rfl) ?_
 refine OPS.nil ?_
 change WP _ _ _ _ _ _
 refine W_ret ?_
 change Fin' _ _ _ _ _ _
 refine End1 (n := ⟨64, []⟩) (t := 2) rfl (by decide) (v := (.bool true)) (rfl) ?_
 exact ⟨rfl, rfl⟩

set_option maxHeartbeats 400000 in
theorem fillNum_e (w0 : World) (kb : Nat) (no : Int) (vI vR : Value) (hb : Blk w0 kb (bookCs no vI vR) 45) :
    Ret Tryz.prog 103 [(.pointer (some ⟨kb, 0, none⟩))] w0 (fun r w1 => w0 = w1) := by
 have b0 : Blk w0 kb [(.int .i64 no), (.slice none 0 0), vI, (.slice none 0 0), (.slice none 0 0), (.slice none 0 0), (.slice none 0 0), (.slice none 0 0), vR, (.slice none 0 0), (.slice none 0 0), (.slice none 0 0), (.slice none 0 0)] 45 := hb
 refine Ret_of (n := 35) Tryz.func103 rfl rfl (Nat.le_of_ble_eq_true rfl) ?_
 refine W_seq ?_
 refine W_region rfl ?_
 refine S_assign rfl rfl rfl (v := (.int .i64 0)) (rfl) ?_
 refine OPS.nil ?_
 change WP _ _ _ _ _ _
 refine W_block ?_
 refine W_loop (fun k σ w => σ 0 = .pointer (some ⟨kb, 0, none⟩) ∧ σ 2 = .int .i64 0 ∧ w0 = w) (0) ⟨rfl, rfl, rfl⟩ ?_
 rintro k σ w ⟨s0, s1, rfl⟩
 refine W_seq ?_
 refine W_seq ?_
 refine W_region rfl ?_
 refine S_move rfl rfl rfl (v := (.int .i64 0)) (s1) ?_
 refine S_move rfl rfl rfl (v := (.pointer (some ⟨kb, 0, none⟩))) (s0) ?_
 refine S_nil rfl rfl rfl (rfl) ?_
 refine S_field ft_assayerlaw01_Book_3 rfl rfl rfl (g := kb) (o := 0) (rfl) (o' := 3) rfl ?_
 refine S_load rfl rfl rfl (rfl) (LD.blk1 ti_Lassayerlaw01_heldNum b0 (v := (.slice none 0 0)) rfl) ?_
 refine S_len Tryz.underlying34 rfl rfl rfl (rfl) (m := 0) (⟨_, _, rfl⟩) ?_
 refine S_bin rfl rfl rfl rfl rfl (rfl) (rfl) (v := .bool false) (by simp [binV]) ?_
 refine OPS.nil ?_
 change WP _ _ _ _ _ _
 refine W_cond rfl (b := false) (rfl) (fun h => (by cases h)) (fun _ => ?_)
 refine W_exit ?_
 change Fin' _ _ _ _ _ _
 refine End0 rfl ?_
 exact rfl

set_option maxHeartbeats 400000 in
theorem growNum_e (w0 : World) (kb : Nat) (no : Int) (vI vR : Value) (hb : Blk w0 kb (bookCs no vI vR) 45) :
    Ret Tryz.prog 115 [(.pointer (some ⟨kb, 0, none⟩))] w0 (fun r w1 => w0 = w1) := by
 have b0 : Blk w0 kb [(.int .i64 no), (.slice none 0 0), vI, (.slice none 0 0), (.slice none 0 0), (.slice none 0 0), (.slice none 0 0), (.slice none 0 0), vR, (.slice none 0 0), (.slice none 0 0), (.slice none 0 0), (.slice none 0 0)] 45 := hb
 refine Ret_of (n := 42) Tryz.func115 rfl rfl (Nat.le_of_ble_eq_true rfl) ?_
 refine W_seq ?_
 refine W_region rfl ?_
 refine S_assign rfl rfl rfl (v := (.int .i64 0)) (rfl) ?_
 refine OPS.nil ?_
 change WP _ _ _ _ _ _
 refine W_block ?_
 refine W_loop (fun k σ w => σ 0 = .pointer (some ⟨kb, 0, none⟩) ∧ σ 2 = .int .i64 0 ∧ w0 = w) (0) ⟨rfl, rfl, rfl⟩ ?_
 rintro k σ w ⟨s0, s1, rfl⟩
 refine W_seq ?_
 refine W_seq ?_
 refine W_region rfl ?_
 refine S_move rfl rfl rfl (v := (.int .i64 0)) (s1) ?_
 refine S_move rfl rfl rfl (v := (.pointer (some ⟨kb, 0, none⟩))) (s0) ?_
 refine S_nil rfl rfl rfl (rfl) ?_
 refine S_field ft_assayerlaw01_Book_3 rfl rfl rfl (g := kb) (o := 0) (rfl) (o' := 3) rfl ?_
 refine S_load rfl rfl rfl (rfl) (LD.blk1 ti_Lassayerlaw01_heldNum b0 (v := (.slice none 0 0)) rfl) ?_
 refine S_len Tryz.underlying34 rfl rfl rfl (rfl) (m := 0) (⟨_, _, rfl⟩) ?_
 refine S_bin rfl rfl rfl rfl rfl (rfl) (rfl) (v := .bool false) (by simp [binV]) ?_
 refine OPS.nil ?_
 change WP _ _ _ _ _ _
 refine W_cond rfl (b := false) (rfl) (fun h => (by cases h)) (fun _ => ?_)
 refine W_exit ?_
 change Fin' _ _ _ _ _ _
 refine End0 rfl ?_
 exact rfl

set_option maxHeartbeats 400000 in
theorem lookNum_e (w0 : World) (kb : Nat) (no : Int) (vI vR : Value) (hb : Blk w0 kb (bookCs no vI vR) 45) :
    Ret Tryz.prog 127 [(.pointer (some ⟨kb, 0, none⟩))] w0 (fun r w1 => r = .bool true ∧ w0 = w1) := by
 have b0 : Blk w0 kb [(.int .i64 no), (.slice none 0 0), vI, (.slice none 0 0), (.slice none 0 0), (.slice none 0 0), (.slice none 0 0), (.slice none 0 0), vR, (.slice none 0 0), (.slice none 0 0), (.slice none 0 0), (.slice none 0 0)] 45 := hb
 refine Ret_of (n := 64) Tryz.func127 rfl rfl (Nat.le_of_ble_eq_true rfl) ?_
 refine W_seq ?_
 refine W_region rfl ?_
 refine S_assign rfl rfl rfl (v := (.bool false)) (rfl) ?_
 refine OPS.nil ?_
 change WP _ _ _ _ _ _
 refine W_seq ?_
 refine W_seq ?_
 refine W_region rfl ?_
 refine S_assign rfl rfl rfl (v := (.int .i64 0)) (rfl) ?_
 refine OPS.nil ?_
 change WP _ _ _ _ _ _
 refine W_block ?_
 refine W_loop (fun k σ w => σ 0 = .pointer (some ⟨kb, 0, none⟩) ∧ σ 3 = .int .i64 0 ∧ w0 = w) (0) ⟨rfl, rfl, rfl⟩ ?_
 rintro k σ w ⟨s0, s1, rfl⟩
 refine W_seq ?_
 refine W_seq ?_
 refine W_region rfl ?_
 refine S_move rfl rfl rfl (v := (.int .i64 0)) (s1) ?_
 refine S_move rfl rfl rfl (v := (.pointer (some ⟨kb, 0, none⟩))) (s0) ?_
 refine S_nil rfl rfl rfl (rfl) ?_
 refine S_field ft_assayerlaw01_Book_3 rfl rfl rfl (g := kb) (o := 0) (rfl) (o' := 3) rfl ?_
 refine S_load rfl rfl rfl (rfl) (LD.blk1 ti_Lassayerlaw01_heldNum b0 (v := (.slice none 0 0)) rfl) ?_
 refine S_len Tryz.underlying34 rfl rfl rfl (rfl) (m := 0) (⟨_, _, rfl⟩) ?_
 refine S_bin rfl rfl rfl rfl rfl (rfl) (rfl) (v := .bool false) (by simp [binV]) ?_
 refine OPS.nil ?_
 change WP _ _ _ _ _ _
 refine W_cond rfl (b := false) (rfl) (fun h => (by cases h)) (fun _ => ?_)
 refine W_exit ?_
 change WP _ _ _ _ _ _
 refine W_seq ?_
 refine W_region rfl ?_
 refine S_assign rfl rfl rfl (v := (.bool true)) (rfl) ?_
 refine OPS.nil ?_
 change WP _ _ _ _ _ _
 refine W_ret ?_
 change Fin' _ _ _ _ _ _
 refine End1 (n := ⟨64, []⟩) (t := 2) rfl (by decide) (v := (.bool true)) (rfl) ?_
 exact ⟨rfl, rfl⟩

set_option maxHeartbeats 400000 in
theorem fillBool_e (w0 : World) (kb : Nat) (no : Int) (vI vR : Value) (hb : Blk w0 kb (bookCs no vI vR) 45) :
    Ret Tryz.prog 104 [(.pointer (some ⟨kb, 0, none⟩))] w0 (fun r w1 => w0 = w1) := by
 have b0 : Blk w0 kb [(.int .i64 no), (.slice none 0 0), vI, (.slice none 0 0), (.slice none 0 0), (.slice none 0 0), (.slice none 0 0), (.slice none 0 0), vR, (.slice none 0 0), (.slice none 0 0), (.slice none 0 0), (.slice none 0 0)] 45 := hb
 refine Ret_of (n := 35) Tryz.func104 rfl rfl (Nat.le_of_ble_eq_true rfl) ?_
 refine W_seq ?_
 refine W_region rfl ?_
 refine S_assign rfl rfl rfl (v := (.int .i64 0)) (rfl) ?_
 refine OPS.nil ?_
 change WP _ _ _ _ _ _
 refine W_block ?_
 refine W_loop (fun k σ w => σ 0 = .pointer (some ⟨kb, 0, none⟩) ∧ σ 2 = .int .i64 0 ∧ w0 = w) (0) ⟨rfl, rfl, rfl⟩ ?_
 rintro k σ w ⟨s0, s1, rfl⟩
 refine W_seq ?_
 refine W_seq ?_
 refine W_region rfl ?_
 refine S_move rfl rfl rfl (v := (.int .i64 0)) (s1) ?_
 refine S_move rfl rfl rfl (v := (.pointer (some ⟨kb, 0, none⟩))) (s0) ?_
 refine S_nil rfl rfl rfl (rfl) ?_
 refine S_field ft_assayerlaw01_Book_4 rfl rfl rfl (g := kb) (o := 0) (rfl) (o' := 4) rfl ?_
 refine S_load rfl rfl rfl (rfl) (LD.blk1 ti_Lassayerlaw01_heldBool b0 (v := (.slice none 0 0)) rfl) ?_
 refine S_len Tryz.underlying35 rfl rfl rfl (rfl) (m := 0) (⟨_, _, rfl⟩) ?_
 refine S_bin rfl rfl rfl rfl rfl (rfl) (rfl) (v := .bool false) (by simp [binV]) ?_
 refine OPS.nil ?_
 change WP _ _ _ _ _ _
 refine W_cond rfl (b := false) (rfl) (fun h => (by cases h)) (fun _ => ?_)
 refine W_exit ?_
 change Fin' _ _ _ _ _ _
 refine End0 rfl ?_
 exact rfl

set_option maxHeartbeats 400000 in
theorem growBool_e (w0 : World) (kb : Nat) (no : Int) (vI vR : Value) (hb : Blk w0 kb (bookCs no vI vR) 45) :
    Ret Tryz.prog 116 [(.pointer (some ⟨kb, 0, none⟩))] w0 (fun r w1 => w0 = w1) := by
 have b0 : Blk w0 kb [(.int .i64 no), (.slice none 0 0), vI, (.slice none 0 0), (.slice none 0 0), (.slice none 0 0), (.slice none 0 0), (.slice none 0 0), vR, (.slice none 0 0), (.slice none 0 0), (.slice none 0 0), (.slice none 0 0)] 45 := hb
 refine Ret_of (n := 42) Tryz.func116 rfl rfl (Nat.le_of_ble_eq_true rfl) ?_
 refine W_seq ?_
 refine W_region rfl ?_
 refine S_assign rfl rfl rfl (v := (.int .i64 0)) (rfl) ?_
 refine OPS.nil ?_
 change WP _ _ _ _ _ _
 refine W_block ?_
 refine W_loop (fun k σ w => σ 0 = .pointer (some ⟨kb, 0, none⟩) ∧ σ 2 = .int .i64 0 ∧ w0 = w) (0) ⟨rfl, rfl, rfl⟩ ?_
 rintro k σ w ⟨s0, s1, rfl⟩
 refine W_seq ?_
 refine W_seq ?_
 refine W_region rfl ?_
 refine S_move rfl rfl rfl (v := (.int .i64 0)) (s1) ?_
 refine S_move rfl rfl rfl (v := (.pointer (some ⟨kb, 0, none⟩))) (s0) ?_
 refine S_nil rfl rfl rfl (rfl) ?_
 refine S_field ft_assayerlaw01_Book_4 rfl rfl rfl (g := kb) (o := 0) (rfl) (o' := 4) rfl ?_
 refine S_load rfl rfl rfl (rfl) (LD.blk1 ti_Lassayerlaw01_heldBool b0 (v := (.slice none 0 0)) rfl) ?_
 refine S_len Tryz.underlying35 rfl rfl rfl (rfl) (m := 0) (⟨_, _, rfl⟩) ?_
 refine S_bin rfl rfl rfl rfl rfl (rfl) (rfl) (v := .bool false) (by simp [binV]) ?_
 refine OPS.nil ?_
 change WP _ _ _ _ _ _
 refine W_cond rfl (b := false) (rfl) (fun h => (by cases h)) (fun _ => ?_)
 refine W_exit ?_
 change Fin' _ _ _ _ _ _
 refine End0 rfl ?_
 exact rfl

set_option maxHeartbeats 400000 in
theorem lookBool_e (w0 : World) (kb : Nat) (no : Int) (vI vR : Value) (hb : Blk w0 kb (bookCs no vI vR) 45) :
    Ret Tryz.prog 128 [(.pointer (some ⟨kb, 0, none⟩))] w0 (fun r w1 => r = .bool true ∧ w0 = w1) := by
 have b0 : Blk w0 kb [(.int .i64 no), (.slice none 0 0), vI, (.slice none 0 0), (.slice none 0 0), (.slice none 0 0), (.slice none 0 0), (.slice none 0 0), vR, (.slice none 0 0), (.slice none 0 0), (.slice none 0 0), (.slice none 0 0)] 45 := hb
 refine Ret_of (n := 64) Tryz.func128 rfl rfl (Nat.le_of_ble_eq_true rfl) ?_
 refine W_seq ?_
 refine W_region rfl ?_
 refine S_assign rfl rfl rfl (v := (.bool false)) (rfl) ?_
 refine OPS.nil ?_
 change WP _ _ _ _ _ _
 refine W_seq ?_
 refine W_seq ?_
 refine W_region rfl ?_
 refine S_assign rfl rfl rfl (v := (.int .i64 0)) (rfl) ?_
 refine OPS.nil ?_
 change WP _ _ _ _ _ _
 refine W_block ?_
 refine W_loop (fun k σ w => σ 0 = .pointer (some ⟨kb, 0, none⟩) ∧ σ 3 = .int .i64 0 ∧ w0 = w) (0) ⟨rfl, rfl, rfl⟩ ?_
 rintro k σ w ⟨s0, s1, rfl⟩
 refine W_seq ?_
 refine W_seq ?_
 refine W_region rfl ?_
 refine S_move rfl rfl rfl (v := (.int .i64 0)) (s1) ?_
 refine S_move rfl rfl rfl (v := (.pointer (some ⟨kb, 0, none⟩))) (s0) ?_
 refine S_nil rfl rfl rfl (rfl) ?_
 refine S_field ft_assayerlaw01_Book_4 rfl rfl rfl (g := kb) (o := 0) (rfl) (o' := 4) rfl ?_
 refine S_load rfl rfl rfl (rfl) (LD.blk1 ti_Lassayerlaw01_heldBool b0 (v := (.slice none 0 0)) rfl) ?_
 refine S_len Tryz.underlying35 rfl rfl rfl (rfl) (m := 0) (⟨_, _, rfl⟩) ?_
 refine S_bin rfl rfl rfl rfl rfl (rfl) (rfl) (v := .bool false) (by simp [binV]) ?_
 refine OPS.nil ?_
 change WP _ _ _ _ _ _
 refine W_cond rfl (b := false) (rfl) (fun h => (by cases h)) (fun _ => ?_)
 refine W_exit ?_
 change WP _ _ _ _ _ _
 refine W_seq ?_
 refine W_region rfl ?_
 refine S_assign rfl rfl rfl (v := (.bool true)) (rfl) ?_
 refine OPS.nil ?_
 change WP _ _ _ _ _ _
 refine W_ret ?_
 change Fin' _ _ _ _ _ _
 refine End1 (n := ⟨64, []⟩) (t := 2) rfl (by decide) (v := (.bool true)) (rfl) ?_
 exact ⟨rfl, rfl⟩

set_option maxHeartbeats 400000 in
theorem fillText_e (w0 : World) (kb : Nat) (no : Int) (vI vR : Value) (hb : Blk w0 kb (bookCs no vI vR) 45) :
    Ret Tryz.prog 105 [(.pointer (some ⟨kb, 0, none⟩))] w0 (fun r w1 => w0 = w1) := by
 have b0 : Blk w0 kb [(.int .i64 no), (.slice none 0 0), vI, (.slice none 0 0), (.slice none 0 0), (.slice none 0 0), (.slice none 0 0), (.slice none 0 0), vR, (.slice none 0 0), (.slice none 0 0), (.slice none 0 0), (.slice none 0 0)] 45 := hb
 refine Ret_of (n := 35) Tryz.func105 rfl rfl (Nat.le_of_ble_eq_true rfl) ?_
 refine W_seq ?_
 refine W_region rfl ?_
 refine S_assign rfl rfl rfl (v := (.int .i64 0)) (rfl) ?_
 refine OPS.nil ?_
 change WP _ _ _ _ _ _
 refine W_block ?_
 refine W_loop (fun k σ w => σ 0 = .pointer (some ⟨kb, 0, none⟩) ∧ σ 2 = .int .i64 0 ∧ w0 = w) (0) ⟨rfl, rfl, rfl⟩ ?_
 rintro k σ w ⟨s0, s1, rfl⟩
 refine W_seq ?_
 refine W_seq ?_
 refine W_region rfl ?_
 refine S_move rfl rfl rfl (v := (.int .i64 0)) (s1) ?_
 refine S_move rfl rfl rfl (v := (.pointer (some ⟨kb, 0, none⟩))) (s0) ?_
 refine S_nil rfl rfl rfl (rfl) ?_
 refine S_field ft_assayerlaw01_Book_5 rfl rfl rfl (g := kb) (o := 0) (rfl) (o' := 5) rfl ?_
 refine S_load rfl rfl rfl (rfl) (LD.blk1 ti_Lassayerlaw01_heldText b0 (v := (.slice none 0 0)) rfl) ?_
 refine S_len Tryz.underlying36 rfl rfl rfl (rfl) (m := 0) (⟨_, _, rfl⟩) ?_
 refine S_bin rfl rfl rfl rfl rfl (rfl) (rfl) (v := .bool false) (by simp [binV]) ?_
 refine OPS.nil ?_
 change WP _ _ _ _ _ _
 refine W_cond rfl (b := false) (rfl) (fun h => (by cases h)) (fun _ => ?_)
 refine W_exit ?_
 change Fin' _ _ _ _ _ _
 refine End0 rfl ?_
 exact rfl

set_option maxHeartbeats 400000 in
theorem growText_e (w0 : World) (kb : Nat) (no : Int) (vI vR : Value) (hb : Blk w0 kb (bookCs no vI vR) 45) :
    Ret Tryz.prog 117 [(.pointer (some ⟨kb, 0, none⟩))] w0 (fun r w1 => w0 = w1) := by
 have b0 : Blk w0 kb [(.int .i64 no), (.slice none 0 0), vI, (.slice none 0 0), (.slice none 0 0), (.slice none 0 0), (.slice none 0 0), (.slice none 0 0), vR, (.slice none 0 0), (.slice none 0 0), (.slice none 0 0), (.slice none 0 0)] 45 := hb
 refine Ret_of (n := 42) Tryz.func117 rfl rfl (Nat.le_of_ble_eq_true rfl) ?_
 refine W_seq ?_
 refine W_region rfl ?_
 refine S_assign rfl rfl rfl (v := (.int .i64 0)) (rfl) ?_
 refine OPS.nil ?_
 change WP _ _ _ _ _ _
 refine W_block ?_
 refine W_loop (fun k σ w => σ 0 = .pointer (some ⟨kb, 0, none⟩) ∧ σ 2 = .int .i64 0 ∧ w0 = w) (0) ⟨rfl, rfl, rfl⟩ ?_
 rintro k σ w ⟨s0, s1, rfl⟩
 refine W_seq ?_
 refine W_seq ?_
 refine W_region rfl ?_
 refine S_move rfl rfl rfl (v := (.int .i64 0)) (s1) ?_
 refine S_move rfl rfl rfl (v := (.pointer (some ⟨kb, 0, none⟩))) (s0) ?_
 refine S_nil rfl rfl rfl (rfl) ?_
 refine S_field ft_assayerlaw01_Book_5 rfl rfl rfl (g := kb) (o := 0) (rfl) (o' := 5) rfl ?_
 refine S_load rfl rfl rfl (rfl) (LD.blk1 ti_Lassayerlaw01_heldText b0 (v := (.slice none 0 0)) rfl) ?_
 refine S_len Tryz.underlying36 rfl rfl rfl (rfl) (m := 0) (⟨_, _, rfl⟩) ?_
 refine S_bin rfl rfl rfl rfl rfl (rfl) (rfl) (v := .bool false) (by simp [binV]) ?_
 refine OPS.nil ?_
 change WP _ _ _ _ _ _
 refine W_cond rfl (b := false) (rfl) (fun h => (by cases h)) (fun _ => ?_)
 refine W_exit ?_
 change Fin' _ _ _ _ _ _
 refine End0 rfl ?_
 exact rfl

set_option maxHeartbeats 400000 in
theorem lookText_e (w0 : World) (kb : Nat) (no : Int) (vI vR : Value) (hb : Blk w0 kb (bookCs no vI vR) 45) :
    Ret Tryz.prog 129 [(.pointer (some ⟨kb, 0, none⟩))] w0 (fun r w1 => r = .bool true ∧ w0 = w1) := by
 have b0 : Blk w0 kb [(.int .i64 no), (.slice none 0 0), vI, (.slice none 0 0), (.slice none 0 0), (.slice none 0 0), (.slice none 0 0), (.slice none 0 0), vR, (.slice none 0 0), (.slice none 0 0), (.slice none 0 0), (.slice none 0 0)] 45 := hb
 refine Ret_of (n := 64) Tryz.func129 rfl rfl (Nat.le_of_ble_eq_true rfl) ?_
 refine W_seq ?_
 refine W_region rfl ?_
 refine S_assign rfl rfl rfl (v := (.bool false)) (rfl) ?_
 refine OPS.nil ?_
 change WP _ _ _ _ _ _
 refine W_seq ?_
 refine W_seq ?_
 refine W_region rfl ?_
 refine S_assign rfl rfl rfl (v := (.int .i64 0)) (rfl) ?_
 refine OPS.nil ?_
 change WP _ _ _ _ _ _
 refine W_block ?_
 refine W_loop (fun k σ w => σ 0 = .pointer (some ⟨kb, 0, none⟩) ∧ σ 3 = .int .i64 0 ∧ w0 = w) (0) ⟨rfl, rfl, rfl⟩ ?_
 rintro k σ w ⟨s0, s1, rfl⟩
 refine W_seq ?_
 refine W_seq ?_
 refine W_region rfl ?_
 refine S_move rfl rfl rfl (v := (.int .i64 0)) (s1) ?_
 refine S_move rfl rfl rfl (v := (.pointer (some ⟨kb, 0, none⟩))) (s0) ?_
 refine S_nil rfl rfl rfl (rfl) ?_
 refine S_field ft_assayerlaw01_Book_5 rfl rfl rfl (g := kb) (o := 0) (rfl) (o' := 5) rfl ?_
 refine S_load rfl rfl rfl (rfl) (LD.blk1 ti_Lassayerlaw01_heldText b0 (v := (.slice none 0 0)) rfl) ?_
 refine S_len Tryz.underlying36 rfl rfl rfl (rfl) (m := 0) (⟨_, _, rfl⟩) ?_
 refine S_bin rfl rfl rfl rfl rfl (rfl) (rfl) (v := .bool false) (by simp [binV]) ?_
 refine OPS.nil ?_
 change WP _ _ _ _ _ _
 refine W_cond rfl (b := false) (rfl) (fun h => (by cases h)) (fun _ => ?_)
 refine W_exit ?_
 change WP _ _ _ _ _ _
 refine W_seq ?_
 refine W_region rfl ?_
 refine S_assign rfl rfl rfl (v := (.bool true)) (rfl) ?_
 refine OPS.nil ?_
 change WP _ _ _ _ _ _
 refine W_ret ?_
 change Fin' _ _ _ _ _ _
 refine End1 (n := ⟨64, []⟩) (t := 2) rfl (by decide) (v := (.bool true)) (rfl) ?_
 exact ⟨rfl, rfl⟩

set_option maxHeartbeats 400000 in
theorem fillToken_e (w0 : World) (kb : Nat) (no : Int) (vI vR : Value) (hb : Blk w0 kb (bookCs no vI vR) 45) :
    Ret Tryz.prog 106 [(.pointer (some ⟨kb, 0, none⟩))] w0 (fun r w1 => w0 = w1) := by
 have b0 : Blk w0 kb [(.int .i64 no), (.slice none 0 0), vI, (.slice none 0 0), (.slice none 0 0), (.slice none 0 0), (.slice none 0 0), (.slice none 0 0), vR, (.slice none 0 0), (.slice none 0 0), (.slice none 0 0), (.slice none 0 0)] 45 := hb
 refine Ret_of (n := 35) Tryz.func106 rfl rfl (Nat.le_of_ble_eq_true rfl) ?_
 refine W_seq ?_
 refine W_region rfl ?_
 refine S_assign rfl rfl rfl (v := (.int .i64 0)) (rfl) ?_
 refine OPS.nil ?_
 change WP _ _ _ _ _ _
 refine W_block ?_
 refine W_loop (fun k σ w => σ 0 = .pointer (some ⟨kb, 0, none⟩) ∧ σ 2 = .int .i64 0 ∧ w0 = w) (0) ⟨rfl, rfl, rfl⟩ ?_
 rintro k σ w ⟨s0, s1, rfl⟩
 refine W_seq ?_
 refine W_seq ?_
 refine W_region rfl ?_
 refine S_move rfl rfl rfl (v := (.int .i64 0)) (s1) ?_
 refine S_move rfl rfl rfl (v := (.pointer (some ⟨kb, 0, none⟩))) (s0) ?_
 refine S_nil rfl rfl rfl (rfl) ?_
 refine S_field ft_assayerlaw01_Book_6 rfl rfl rfl (g := kb) (o := 0) (rfl) (o' := 6) rfl ?_
 refine S_load rfl rfl rfl (rfl) (LD.blk1 ti_Lassayerlaw01_heldToken b0 (v := (.slice none 0 0)) rfl) ?_
 refine S_len Tryz.underlying37 rfl rfl rfl (rfl) (m := 0) (⟨_, _, rfl⟩) ?_
 refine S_bin rfl rfl rfl rfl rfl (rfl) (rfl) (v := .bool false) (by simp [binV]) ?_
 refine OPS.nil ?_
 change WP _ _ _ _ _ _
 refine W_cond rfl (b := false) (rfl) (fun h => (by cases h)) (fun _ => ?_)
 refine W_exit ?_
 change Fin' _ _ _ _ _ _
 refine End0 rfl ?_
 exact rfl

set_option maxHeartbeats 400000 in
theorem growToken_e (w0 : World) (kb : Nat) (no : Int) (vI vR : Value) (hb : Blk w0 kb (bookCs no vI vR) 45) :
    Ret Tryz.prog 118 [(.pointer (some ⟨kb, 0, none⟩))] w0 (fun r w1 => w0 = w1) := by
 have b0 : Blk w0 kb [(.int .i64 no), (.slice none 0 0), vI, (.slice none 0 0), (.slice none 0 0), (.slice none 0 0), (.slice none 0 0), (.slice none 0 0), vR, (.slice none 0 0), (.slice none 0 0), (.slice none 0 0), (.slice none 0 0)] 45 := hb
 refine Ret_of (n := 42) Tryz.func118 rfl rfl (Nat.le_of_ble_eq_true rfl) ?_
 refine W_seq ?_
 refine W_region rfl ?_
 refine S_assign rfl rfl rfl (v := (.int .i64 0)) (rfl) ?_
 refine OPS.nil ?_
 change WP _ _ _ _ _ _
 refine W_block ?_
 refine W_loop (fun k σ w => σ 0 = .pointer (some ⟨kb, 0, none⟩) ∧ σ 2 = .int .i64 0 ∧ w0 = w) (0) ⟨rfl, rfl, rfl⟩ ?_
 rintro k σ w ⟨s0, s1, rfl⟩
 refine W_seq ?_
 refine W_seq ?_
 refine W_region rfl ?_
 refine S_move rfl rfl rfl (v := (.int .i64 0)) (s1) ?_
 refine S_move rfl rfl rfl (v := (.pointer (some ⟨kb, 0, none⟩))) (s0) ?_
 refine S_nil rfl rfl rfl (rfl) ?_
 refine S_field ft_assayerlaw01_Book_6 rfl rfl rfl (g := kb) (o := 0) (rfl) (o' := 6) rfl ?_
 refine S_load rfl rfl rfl (rfl) (LD.blk1 ti_Lassayerlaw01_heldToken b0 (v := (.slice none 0 0)) rfl) ?_
 refine S_len Tryz.underlying37 rfl rfl rfl (rfl) (m := 0) (⟨_, _, rfl⟩) ?_
 refine S_bin rfl rfl rfl rfl rfl (rfl) (rfl) (v := .bool false) (by simp [binV]) ?_
 refine OPS.nil ?_
 change WP _ _ _ _ _ _
 refine W_cond rfl (b := false) (rfl) (fun h => (by cases h)) (fun _ => ?_)
 refine W_exit ?_
 change Fin' _ _ _ _ _ _
 refine End0 rfl ?_
 exact rfl

set_option maxHeartbeats 400000 in
theorem lookToken_e (w0 : World) (kb : Nat) (no : Int) (vI vR : Value) (hb : Blk w0 kb (bookCs no vI vR) 45) :
    Ret Tryz.prog 130 [(.pointer (some ⟨kb, 0, none⟩))] w0 (fun r w1 => r = .bool true ∧ w0 = w1) := by
 have b0 : Blk w0 kb [(.int .i64 no), (.slice none 0 0), vI, (.slice none 0 0), (.slice none 0 0), (.slice none 0 0), (.slice none 0 0), (.slice none 0 0), vR, (.slice none 0 0), (.slice none 0 0), (.slice none 0 0), (.slice none 0 0)] 45 := hb
 refine Ret_of (n := 64) Tryz.func130 rfl rfl (Nat.le_of_ble_eq_true rfl) ?_
 refine W_seq ?_
 refine W_region rfl ?_
 refine S_assign rfl rfl rfl (v := (.bool false)) (rfl) ?_
 refine OPS.nil ?_
 change WP _ _ _ _ _ _
 refine W_seq ?_
 refine W_seq ?_
 refine W_region rfl ?_
 refine S_assign rfl rfl rfl (v := (.int .i64 0)) (rfl) ?_
 refine OPS.nil ?_
 change WP _ _ _ _ _ _
 refine W_block ?_
 refine W_loop (fun k σ w => σ 0 = .pointer (some ⟨kb, 0, none⟩) ∧ σ 3 = .int .i64 0 ∧ w0 = w) (0) ⟨rfl, rfl, rfl⟩ ?_
 rintro k σ w ⟨s0, s1, rfl⟩
 refine W_seq ?_
 refine W_seq ?_
 refine W_region rfl ?_
 refine S_move rfl rfl rfl (v := (.int .i64 0)) (s1) ?_
 refine S_move rfl rfl rfl (v := (.pointer (some ⟨kb, 0, none⟩))) (s0) ?_
 refine S_nil rfl rfl rfl (rfl) ?_
 refine S_field ft_assayerlaw01_Book_6 rfl rfl rfl (g := kb) (o := 0) (rfl) (o' := 6) rfl ?_
 refine S_load rfl rfl rfl (rfl) (LD.blk1 ti_Lassayerlaw01_heldToken b0 (v := (.slice none 0 0)) rfl) ?_
 refine S_len Tryz.underlying37 rfl rfl rfl (rfl) (m := 0) (⟨_, _, rfl⟩) ?_
 refine S_bin rfl rfl rfl rfl rfl (rfl) (rfl) (v := .bool false) (by simp [binV]) ?_
 refine OPS.nil ?_
 change WP _ _ _ _ _ _
 refine W_cond rfl (b := false) (rfl) (fun h => (by cases h)) (fun _ => ?_)
 refine W_exit ?_
 change WP _ _ _ _ _ _
 refine W_seq ?_
 refine W_region rfl ?_
 refine S_assign rfl rfl rfl (v := (.bool true)) (rfl) ?_
 refine OPS.nil ?_
 change WP _ _ _ _ _ _
 refine W_ret ?_
 change Fin' _ _ _ _ _ _
 refine End1 (n := ⟨64, []⟩) (t := 2) rfl (by decide) (v := (.bool true)) (rfl) ?_
 exact ⟨rfl, rfl⟩

set_option maxHeartbeats 400000 in
theorem fillTenant_e (w0 : World) (kb : Nat) (no : Int) (vI vR : Value) (hb : Blk w0 kb (bookCs no vI vR) 45) :
    Ret Tryz.prog 107 [(.pointer (some ⟨kb, 0, none⟩))] w0 (fun r w1 => w0 = w1) := by
 have b0 : Blk w0 kb [(.int .i64 no), (.slice none 0 0), vI, (.slice none 0 0), (.slice none 0 0), (.slice none 0 0), (.slice none 0 0), (.slice none 0 0), vR, (.slice none 0 0), (.slice none 0 0), (.slice none 0 0), (.slice none 0 0)] 45 := hb
 refine Ret_of (n := 35) Tryz.func107 rfl rfl (Nat.le_of_ble_eq_true rfl) ?_
 refine W_seq ?_
 refine W_region rfl ?_
 refine S_assign rfl rfl rfl (v := (.int .i64 0)) (rfl) ?_
 refine OPS.nil ?_
 change WP _ _ _ _ _ _
 refine W_block ?_
 refine W_loop (fun k σ w => σ 0 = .pointer (some ⟨kb, 0, none⟩) ∧ σ 2 = .int .i64 0 ∧ w0 = w) (0) ⟨rfl, rfl, rfl⟩ ?_
 rintro k σ w ⟨s0, s1, rfl⟩
 refine W_seq ?_
 refine W_seq ?_
 refine W_region rfl ?_
 refine S_move rfl rfl rfl (v := (.int .i64 0)) (s1) ?_
 refine S_move rfl rfl rfl (v := (.pointer (some ⟨kb, 0, none⟩))) (s0) ?_
 refine S_nil rfl rfl rfl (rfl) ?_
 refine S_field ft_assayerlaw01_Book_7 rfl rfl rfl (g := kb) (o := 0) (rfl) (o' := 7) rfl ?_
 refine S_load rfl rfl rfl (rfl) (LD.blk1 ti_Lassayerlaw01_heldTenant b0 (v := (.slice none 0 0)) rfl) ?_
 refine S_len Tryz.underlying38 rfl rfl rfl (rfl) (m := 0) (⟨_, _, rfl⟩) ?_
 refine S_bin rfl rfl rfl rfl rfl (rfl) (rfl) (v := .bool false) (by simp [binV]) ?_
 refine OPS.nil ?_
 change WP _ _ _ _ _ _
 refine W_cond rfl (b := false) (rfl) (fun h => (by cases h)) (fun _ => ?_)
 refine W_exit ?_
 change Fin' _ _ _ _ _ _
 refine End0 rfl ?_
 exact rfl

set_option maxHeartbeats 400000 in
theorem growTenant_e (w0 : World) (kb : Nat) (no : Int) (vI vR : Value) (hb : Blk w0 kb (bookCs no vI vR) 45) :
    Ret Tryz.prog 119 [(.pointer (some ⟨kb, 0, none⟩))] w0 (fun r w1 => w0 = w1) := by
 have b0 : Blk w0 kb [(.int .i64 no), (.slice none 0 0), vI, (.slice none 0 0), (.slice none 0 0), (.slice none 0 0), (.slice none 0 0), (.slice none 0 0), vR, (.slice none 0 0), (.slice none 0 0), (.slice none 0 0), (.slice none 0 0)] 45 := hb
 refine Ret_of (n := 42) Tryz.func119 rfl rfl (Nat.le_of_ble_eq_true rfl) ?_
 refine W_seq ?_
 refine W_region rfl ?_
 refine S_assign rfl rfl rfl (v := (.int .i64 0)) (rfl) ?_
 refine OPS.nil ?_
 change WP _ _ _ _ _ _
 refine W_block ?_
 refine W_loop (fun k σ w => σ 0 = .pointer (some ⟨kb, 0, none⟩) ∧ σ 2 = .int .i64 0 ∧ w0 = w) (0) ⟨rfl, rfl, rfl⟩ ?_
 rintro k σ w ⟨s0, s1, rfl⟩
 refine W_seq ?_
 refine W_seq ?_
 refine W_region rfl ?_
 refine S_move rfl rfl rfl (v := (.int .i64 0)) (s1) ?_
 refine S_move rfl rfl rfl (v := (.pointer (some ⟨kb, 0, none⟩))) (s0) ?_
 refine S_nil rfl rfl rfl (rfl) ?_
 refine S_field ft_assayerlaw01_Book_7 rfl rfl rfl (g := kb) (o := 0) (rfl) (o' := 7) rfl ?_
 refine S_load rfl rfl rfl (rfl) (LD.blk1 ti_Lassayerlaw01_heldTenant b0 (v := (.slice none 0 0)) rfl) ?_
 refine S_len Tryz.underlying38 rfl rfl rfl (rfl) (m := 0) (⟨_, _, rfl⟩) ?_
 refine S_bin rfl rfl rfl rfl rfl (rfl) (rfl) (v := .bool false) (by simp [binV]) ?_
 refine OPS.nil ?_
 change WP _ _ _ _ _ _
 refine W_cond rfl (b := false) (rfl) (fun h => (by cases h)) (fun _ => ?_)
 refine W_exit ?_
 change Fin' _ _ _ _ _ _
 refine End0 rfl ?_
 exact rfl

set_option maxHeartbeats 400000 in
theorem lookTenant_e (w0 : World) (kb : Nat) (no : Int) (vI vR : Value) (hb : Blk w0 kb (bookCs no vI vR) 45) :
    Ret Tryz.prog 131 [(.pointer (some ⟨kb, 0, none⟩))] w0 (fun r w1 => r = .bool true ∧ w0 = w1) := by
 have b0 : Blk w0 kb [(.int .i64 no), (.slice none 0 0), vI, (.slice none 0 0), (.slice none 0 0), (.slice none 0 0), (.slice none 0 0), (.slice none 0 0), vR, (.slice none 0 0), (.slice none 0 0), (.slice none 0 0), (.slice none 0 0)] 45 := hb
 refine Ret_of (n := 64) Tryz.func131 rfl rfl (Nat.le_of_ble_eq_true rfl) ?_
 refine W_seq ?_
 refine W_region rfl ?_
 refine S_assign rfl rfl rfl (v := (.bool false)) (rfl) ?_
 refine OPS.nil ?_
 change WP _ _ _ _ _ _
 refine W_seq ?_
 refine W_seq ?_
 refine W_region rfl ?_
 refine S_assign rfl rfl rfl (v := (.int .i64 0)) (rfl) ?_
 refine OPS.nil ?_
 change WP _ _ _ _ _ _
 refine W_block ?_
 refine W_loop (fun k σ w => σ 0 = .pointer (some ⟨kb, 0, none⟩) ∧ σ 3 = .int .i64 0 ∧ w0 = w) (0) ⟨rfl, rfl, rfl⟩ ?_
 rintro k σ w ⟨s0, s1, rfl⟩
 refine W_seq ?_
 refine W_seq ?_
 refine W_region rfl ?_
 refine S_move rfl rfl rfl (v := (.int .i64 0)) (s1) ?_
 refine S_move rfl rfl rfl (v := (.pointer (some ⟨kb, 0, none⟩))) (s0) ?_
 refine S_nil rfl rfl rfl (rfl) ?_
 refine S_field ft_assayerlaw01_Book_7 rfl rfl rfl (g := kb) (o := 0) (rfl) (o' := 7) rfl ?_
 refine S_load rfl rfl rfl (rfl) (LD.blk1 ti_Lassayerlaw01_heldTenant b0 (v := (.slice none 0 0)) rfl) ?_
 refine S_len Tryz.underlying38 rfl rfl rfl (rfl) (m := 0) (⟨_, _, rfl⟩) ?_
 refine S_bin rfl rfl rfl rfl rfl (rfl) (rfl) (v := .bool false) (by simp [binV]) ?_
 refine OPS.nil ?_
 change WP _ _ _ _ _ _
 refine W_cond rfl (b := false) (rfl) (fun h => (by cases h)) (fun _ => ?_)
 refine W_exit ?_
 change WP _ _ _ _ _ _
 refine W_seq ?_
 refine W_region rfl ?_
 refine S_assign rfl rfl rfl (v := (.bool true)) (rfl) ?_
 refine OPS.nil ?_
 change WP _ _ _ _ _ _
 refine W_ret ?_
 change Fin' _ _ _ _ _ _
 refine End1 (n := ⟨64, []⟩) (t := 2) rfl (by decide) (v := (.bool true)) (rfl) ?_
 exact ⟨rfl, rfl⟩

set_option maxHeartbeats 400000 in
theorem fillVar_e (w0 : World) (kb : Nat) (no : Int) (vI vR : Value) (hb : Blk w0 kb (bookCs no vI vR) 45) :
    Ret Tryz.prog 109 [(.pointer (some ⟨kb, 0, none⟩))] w0 (fun r w1 => w0 = w1) := by
 have b0 : Blk w0 kb [(.int .i64 no), (.slice none 0 0), vI, (.slice none 0 0), (.slice none 0 0), (.slice none 0 0), (.slice none 0 0), (.slice none 0 0), vR, (.slice none 0 0), (.slice none 0 0), (.slice none 0 0), (.slice none 0 0)] 45 := hb
 refine Ret_of (n := 35) Tryz.func109 rfl rfl (Nat.le_of_ble_eq_true rfl) ?_
 refine W_seq ?_
 refine W_region rfl ?_
 refine S_assign rfl rfl rfl (v := (.int .i64 0)) (rfl) ?_
 refine OPS.nil ?_
 change WP _ _ _ _ _ _
 refine W_block ?_
 refine W_loop (fun k σ w => σ 0 = .pointer (some ⟨kb, 0, none⟩) ∧ σ 2 = .int .i64 0 ∧ w0 = w) (0) ⟨rfl, rfl, rfl⟩ ?_
 rintro k σ w ⟨s0, s1, rfl⟩
 refine W_seq ?_
 refine W_seq ?_
 refine W_region rfl ?_
 refine S_move rfl rfl rfl (v := (.int .i64 0)) (s1) ?_
 refine S_move rfl rfl rfl (v := (.pointer (some ⟨kb, 0, none⟩))) (s0) ?_
 refine S_nil rfl rfl rfl (rfl) ?_
 refine S_field ft_assayerlaw01_Book_9 rfl rfl rfl (g := kb) (o := 0) (rfl) (o' := 9) rfl ?_
 refine S_load rfl rfl rfl (rfl) (LD.blk1 ti_Lassayerlaw01_heldVar b0 (v := (.slice none 0 0)) rfl) ?_
 refine S_len Tryz.underlying40 rfl rfl rfl (rfl) (m := 0) (⟨_, _, rfl⟩) ?_
 refine S_bin rfl rfl rfl rfl rfl (rfl) (rfl) (v := .bool false) (by simp [binV]) ?_
 refine OPS.nil ?_
 change WP _ _ _ _ _ _
 refine W_cond rfl (b := false) (rfl) (fun h => (by cases h)) (fun _ => ?_)
 refine W_exit ?_
 change Fin' _ _ _ _ _ _
 refine End0 rfl ?_
 exact rfl

set_option maxHeartbeats 400000 in
theorem growVar_e (w0 : World) (kb : Nat) (no : Int) (vI vR : Value) (hb : Blk w0 kb (bookCs no vI vR) 45) :
    Ret Tryz.prog 121 [(.pointer (some ⟨kb, 0, none⟩))] w0 (fun r w1 => w0 = w1) := by
 have b0 : Blk w0 kb [(.int .i64 no), (.slice none 0 0), vI, (.slice none 0 0), (.slice none 0 0), (.slice none 0 0), (.slice none 0 0), (.slice none 0 0), vR, (.slice none 0 0), (.slice none 0 0), (.slice none 0 0), (.slice none 0 0)] 45 := hb
 refine Ret_of (n := 42) Tryz.func121 rfl rfl (Nat.le_of_ble_eq_true rfl) ?_
 refine W_seq ?_
 refine W_region rfl ?_
 refine S_assign rfl rfl rfl (v := (.int .i64 0)) (rfl) ?_
 refine OPS.nil ?_
 change WP _ _ _ _ _ _
 refine W_block ?_
 refine W_loop (fun k σ w => σ 0 = .pointer (some ⟨kb, 0, none⟩) ∧ σ 2 = .int .i64 0 ∧ w0 = w) (0) ⟨rfl, rfl, rfl⟩ ?_
 rintro k σ w ⟨s0, s1, rfl⟩
 refine W_seq ?_
 refine W_seq ?_
 refine W_region rfl ?_
 refine S_move rfl rfl rfl (v := (.int .i64 0)) (s1) ?_
 refine S_move rfl rfl rfl (v := (.pointer (some ⟨kb, 0, none⟩))) (s0) ?_
 refine S_nil rfl rfl rfl (rfl) ?_
 refine S_field ft_assayerlaw01_Book_9 rfl rfl rfl (g := kb) (o := 0) (rfl) (o' := 9) rfl ?_
 refine S_load rfl rfl rfl (rfl) (LD.blk1 ti_Lassayerlaw01_heldVar b0 (v := (.slice none 0 0)) rfl) ?_
 refine S_len Tryz.underlying40 rfl rfl rfl (rfl) (m := 0) (⟨_, _, rfl⟩) ?_
 refine S_bin rfl rfl rfl rfl rfl (rfl) (rfl) (v := .bool false) (by simp [binV]) ?_
 refine OPS.nil ?_
 change WP _ _ _ _ _ _
 refine W_cond rfl (b := false) (rfl) (fun h => (by cases h)) (fun _ => ?_)
 refine W_exit ?_
 change Fin' _ _ _ _ _ _
 refine End0 rfl ?_
 exact rfl

set_option maxHeartbeats 400000 in
theorem lookVar_e (w0 : World) (kb : Nat) (no : Int) (vI vR : Value) (hb : Blk w0 kb (bookCs no vI vR) 45) :
    Ret Tryz.prog 133 [(.pointer (some ⟨kb, 0, none⟩))] w0 (fun r w1 => r = .bool true ∧ w0 = w1) := by
 have b0 : Blk w0 kb [(.int .i64 no), (.slice none 0 0), vI, (.slice none 0 0), (.slice none 0 0), (.slice none 0 0), (.slice none 0 0), (.slice none 0 0), vR, (.slice none 0 0), (.slice none 0 0), (.slice none 0 0), (.slice none 0 0)] 45 := hb
 refine Ret_of (n := 64) Tryz.func133 rfl rfl (Nat.le_of_ble_eq_true rfl) ?_
 refine W_seq ?_
 refine W_region rfl ?_
 refine S_assign rfl rfl rfl (v := (.bool false)) (rfl) ?_
 refine OPS.nil ?_
 change WP _ _ _ _ _ _
 refine W_seq ?_
 refine W_seq ?_
 refine W_region rfl ?_
 refine S_assign rfl rfl rfl (v := (.int .i64 0)) (rfl) ?_
 refine OPS.nil ?_
 change WP _ _ _ _ _ _
 refine W_block ?_
 refine W_loop (fun k σ w => σ 0 = .pointer (some ⟨kb, 0, none⟩) ∧ σ 3 = .int .i64 0 ∧ w0 = w) (0) ⟨rfl, rfl, rfl⟩ ?_
 rintro k σ w ⟨s0, s1, rfl⟩
 refine W_seq ?_
 refine W_seq ?_
 refine W_region rfl ?_
 refine S_move rfl rfl rfl (v := (.int .i64 0)) (s1) ?_
 refine S_move rfl rfl rfl (v := (.pointer (some ⟨kb, 0, none⟩))) (s0) ?_
 refine S_nil rfl rfl rfl (rfl) ?_
 refine S_field ft_assayerlaw01_Book_9 rfl rfl rfl (g := kb) (o := 0) (rfl) (o' := 9) rfl ?_
 refine S_load rfl rfl rfl (rfl) (LD.blk1 ti_Lassayerlaw01_heldVar b0 (v := (.slice none 0 0)) rfl) ?_
 refine S_len Tryz.underlying40 rfl rfl rfl (rfl) (m := 0) (⟨_, _, rfl⟩) ?_
 refine S_bin rfl rfl rfl rfl rfl (rfl) (rfl) (v := .bool false) (by simp [binV]) ?_
 refine OPS.nil ?_
 change WP _ _ _ _ _ _
 refine W_cond rfl (b := false) (rfl) (fun h => (by cases h)) (fun _ => ?_)
 refine W_exit ?_
 change WP _ _ _ _ _ _
 refine W_seq ?_
 refine W_region rfl ?_
 refine S_assign rfl rfl rfl (v := (.bool true)) (rfl) ?_
 refine OPS.nil ?_
 change WP _ _ _ _ _ _
 refine W_ret ?_
 change Fin' _ _ _ _ _ _
 refine End1 (n := ⟨64, []⟩) (t := 2) rfl (by decide) (v := (.bool true)) (rfl) ?_
 exact ⟨rfl, rfl⟩

set_option maxHeartbeats 400000 in
theorem fillRow_e (w0 : World) (kb : Nat) (no : Int) (vI vR : Value) (hb : Blk w0 kb (bookCs no vI vR) 45) :
    Ret Tryz.prog 110 [(.pointer (some ⟨kb, 0, none⟩))] w0 (fun r w1 => w0 = w1) := by
 have b0 : Blk w0 kb [(.int .i64 no), (.slice none 0 0), vI, (.slice none 0 0), (.slice none 0 0), (.slice none 0 0), (.slice none 0 0), (.slice none 0 0), vR, (.slice none 0 0), (.slice none 0 0), (.slice none 0 0), (.slice none 0 0)] 45 := hb
 refine Ret_of (n := 35) Tryz.func110 rfl rfl (Nat.le_of_ble_eq_true rfl) ?_
 refine W_seq ?_
 refine W_region rfl ?_
 refine S_assign rfl rfl rfl (v := (.int .i64 0)) (rfl) ?_
 refine OPS.nil ?_
 change WP _ _ _ _ _ _
 refine W_block ?_
 refine W_loop (fun k σ w => σ 0 = .pointer (some ⟨kb, 0, none⟩) ∧ σ 2 = .int .i64 0 ∧ w0 = w) (0) ⟨rfl, rfl, rfl⟩ ?_
 rintro k σ w ⟨s0, s1, rfl⟩
 refine W_seq ?_
 refine W_seq ?_
 refine W_region rfl ?_
 refine S_move rfl rfl rfl (v := (.int .i64 0)) (s1) ?_
 refine S_move rfl rfl rfl (v := (.pointer (some ⟨kb, 0, none⟩))) (s0) ?_
 refine S_nil rfl rfl rfl (rfl) ?_
 refine S_field ft_assayerlaw01_Book_10 rfl rfl rfl (g := kb) (o := 0) (rfl) (o' := 10) rfl ?_
 refine S_load rfl rfl rfl (rfl) (LD.blk1 ti_Lassayerlaw01_heldRow b0 (v := (.slice none 0 0)) rfl) ?_
 refine S_len Tryz.underlying41 rfl rfl rfl (rfl) (m := 0) (⟨_, _, rfl⟩) ?_
 refine S_bin rfl rfl rfl rfl rfl (rfl) (rfl) (v := .bool false) (by simp [binV]) ?_
 refine OPS.nil ?_
 change WP _ _ _ _ _ _
 refine W_cond rfl (b := false) (rfl) (fun h => (by cases h)) (fun _ => ?_)
 refine W_exit ?_
 change Fin' _ _ _ _ _ _
 refine End0 rfl ?_
 exact rfl

set_option maxHeartbeats 400000 in
theorem growRow_e (w0 : World) (kb : Nat) (no : Int) (vI vR : Value) (hb : Blk w0 kb (bookCs no vI vR) 45) :
    Ret Tryz.prog 122 [(.pointer (some ⟨kb, 0, none⟩))] w0 (fun r w1 => w0 = w1) := by
 have b0 : Blk w0 kb [(.int .i64 no), (.slice none 0 0), vI, (.slice none 0 0), (.slice none 0 0), (.slice none 0 0), (.slice none 0 0), (.slice none 0 0), vR, (.slice none 0 0), (.slice none 0 0), (.slice none 0 0), (.slice none 0 0)] 45 := hb
 refine Ret_of (n := 42) Tryz.func122 rfl rfl (Nat.le_of_ble_eq_true rfl) ?_
 refine W_seq ?_
 refine W_region rfl ?_
 refine S_assign rfl rfl rfl (v := (.int .i64 0)) (rfl) ?_
 refine OPS.nil ?_
 change WP _ _ _ _ _ _
 refine W_block ?_
 refine W_loop (fun k σ w => σ 0 = .pointer (some ⟨kb, 0, none⟩) ∧ σ 2 = .int .i64 0 ∧ w0 = w) (0) ⟨rfl, rfl, rfl⟩ ?_
 rintro k σ w ⟨s0, s1, rfl⟩
 refine W_seq ?_
 refine W_seq ?_
 refine W_region rfl ?_
 refine S_move rfl rfl rfl (v := (.int .i64 0)) (s1) ?_
 refine S_move rfl rfl rfl (v := (.pointer (some ⟨kb, 0, none⟩))) (s0) ?_
 refine S_nil rfl rfl rfl (rfl) ?_
 refine S_field ft_assayerlaw01_Book_10 rfl rfl rfl (g := kb) (o := 0) (rfl) (o' := 10) rfl ?_
 refine S_load rfl rfl rfl (rfl) (LD.blk1 ti_Lassayerlaw01_heldRow b0 (v := (.slice none 0 0)) rfl) ?_
 refine S_len Tryz.underlying41 rfl rfl rfl (rfl) (m := 0) (⟨_, _, rfl⟩) ?_
 refine S_bin rfl rfl rfl rfl rfl (rfl) (rfl) (v := .bool false) (by simp [binV]) ?_
 refine OPS.nil ?_
 change WP _ _ _ _ _ _
 refine W_cond rfl (b := false) (rfl) (fun h => (by cases h)) (fun _ => ?_)
 refine W_exit ?_
 change Fin' _ _ _ _ _ _
 refine End0 rfl ?_
 exact rfl

set_option maxHeartbeats 400000 in
theorem lookRow_e (w0 : World) (kb : Nat) (no : Int) (vI vR : Value) (hb : Blk w0 kb (bookCs no vI vR) 45) :
    Ret Tryz.prog 134 [(.pointer (some ⟨kb, 0, none⟩))] w0 (fun r w1 => r = .bool true ∧ w0 = w1) := by
 have b0 : Blk w0 kb [(.int .i64 no), (.slice none 0 0), vI, (.slice none 0 0), (.slice none 0 0), (.slice none 0 0), (.slice none 0 0), (.slice none 0 0), vR, (.slice none 0 0), (.slice none 0 0), (.slice none 0 0), (.slice none 0 0)] 45 := hb
 refine Ret_of (n := 64) Tryz.func134 rfl rfl (Nat.le_of_ble_eq_true rfl) ?_
 refine W_seq ?_
 refine W_region rfl ?_
 refine S_assign rfl rfl rfl (v := (.bool false)) (rfl) ?_
 refine OPS.nil ?_
 change WP _ _ _ _ _ _
 refine W_seq ?_
 refine W_seq ?_
 refine W_region rfl ?_
 refine S_assign rfl rfl rfl (v := (.int .i64 0)) (rfl) ?_
 refine OPS.nil ?_
 change WP _ _ _ _ _ _
 refine W_block ?_
 refine W_loop (fun k σ w => σ 0 = .pointer (some ⟨kb, 0, none⟩) ∧ σ 3 = .int .i64 0 ∧ w0 = w) (0) ⟨rfl, rfl, rfl⟩ ?_
 rintro k σ w ⟨s0, s1, rfl⟩
 refine W_seq ?_
 refine W_seq ?_
 refine W_region rfl ?_
 refine S_move rfl rfl rfl (v := (.int .i64 0)) (s1) ?_
 refine S_move rfl rfl rfl (v := (.pointer (some ⟨kb, 0, none⟩))) (s0) ?_
 refine S_nil rfl rfl rfl (rfl) ?_
 refine S_field ft_assayerlaw01_Book_10 rfl rfl rfl (g := kb) (o := 0) (rfl) (o' := 10) rfl ?_
 refine S_load rfl rfl rfl (rfl) (LD.blk1 ti_Lassayerlaw01_heldRow b0 (v := (.slice none 0 0)) rfl) ?_
 refine S_len Tryz.underlying41 rfl rfl rfl (rfl) (m := 0) (⟨_, _, rfl⟩) ?_
 refine S_bin rfl rfl rfl rfl rfl (rfl) (rfl) (v := .bool false) (by simp [binV]) ?_
 refine OPS.nil ?_
 change WP _ _ _ _ _ _
 refine W_cond rfl (b := false) (rfl) (fun h => (by cases h)) (fun _ => ?_)
 refine W_exit ?_
 change WP _ _ _ _ _ _
 refine W_seq ?_
 refine W_region rfl ?_
 refine S_assign rfl rfl rfl (v := (.bool true)) (rfl) ?_
 refine OPS.nil ?_
 change WP _ _ _ _ _ _
 refine W_ret ?_
 change Fin' _ _ _ _ _ _
 refine End1 (n := ⟨64, []⟩) (t := 2) rfl (by decide) (v := (.bool true)) (rfl) ?_
 exact ⟨rfl, rfl⟩

set_option maxHeartbeats 400000 in
theorem fillNode_e (w0 : World) (kb : Nat) (no : Int) (vI vR : Value) (hb : Blk w0 kb (bookCs no vI vR) 45) :
    Ret Tryz.prog 111 [(.pointer (some ⟨kb, 0, none⟩))] w0 (fun r w1 => w0 = w1) := by
 have b0 : Blk w0 kb [(.int .i64 no), (.slice none 0 0), vI, (.slice none 0 0), (.slice none 0 0), (.slice none 0 0), (.slice none 0 0), (.slice none 0 0), vR, (.slice none 0 0), (.slice none 0 0), (.slice none 0 0), (.slice none 0 0)] 45 := hb
 refine Ret_of (n := 35) Tryz.func111 rfl rfl (Nat.le_of_ble_eq_true rfl) ?_
 refine W_seq ?_
 refine W_region rfl ?_
 refine S_assign rfl rfl rfl (v := (.int .i64 0)) (rfl) ?_
 refine OPS.nil ?_
 change WP _ _ _ _ _ _
 refine W_block ?_
 refine W_loop (fun k σ w => σ 0 = .pointer (some ⟨kb, 0, none⟩) ∧ σ 2 = .int .i64 0 ∧ w0 = w) (0) ⟨rfl, rfl, rfl⟩ ?_
 rintro k σ w ⟨s0, s1, rfl⟩
 refine W_seq ?_
 refine W_seq ?_
 refine W_region rfl ?_
 refine S_move rfl rfl rfl (v := (.int .i64 0)) (s1) ?_
 refine S_move rfl rfl rfl (v := (.pointer (some ⟨kb, 0, none⟩))) (s0) ?_
 refine S_nil rfl rfl rfl (rfl) ?_
 refine S_field ft_assayerlaw01_Book_11 rfl rfl rfl (g := kb) (o := 0) (rfl) (o' := 11) rfl ?_
 refine S_load rfl rfl rfl (rfl) (LD.blk1 ti_Lassayerlaw01_heldNode b0 (v := (.slice none 0 0)) rfl) ?_
 refine S_len Tryz.underlying42 rfl rfl rfl (rfl) (m := 0) (⟨_, _, rfl⟩) ?_
 refine S_bin rfl rfl rfl rfl rfl (rfl) (rfl) (v := .bool false) (by simp [binV]) ?_
 refine OPS.nil ?_
 change WP _ _ _ _ _ _
 refine W_cond rfl (b := false) (rfl) (fun h => (by cases h)) (fun _ => ?_)
 refine W_exit ?_
 change Fin' _ _ _ _ _ _
 refine End0 rfl ?_
 exact rfl

set_option maxHeartbeats 400000 in
theorem growNode_e (w0 : World) (kb : Nat) (no : Int) (vI vR : Value) (hb : Blk w0 kb (bookCs no vI vR) 45) :
    Ret Tryz.prog 123 [(.pointer (some ⟨kb, 0, none⟩))] w0 (fun r w1 => w0 = w1) := by
 have b0 : Blk w0 kb [(.int .i64 no), (.slice none 0 0), vI, (.slice none 0 0), (.slice none 0 0), (.slice none 0 0), (.slice none 0 0), (.slice none 0 0), vR, (.slice none 0 0), (.slice none 0 0), (.slice none 0 0), (.slice none 0 0)] 45 := hb
 refine Ret_of (n := 42) Tryz.func123 rfl rfl (Nat.le_of_ble_eq_true rfl) ?_
 refine W_seq ?_
 refine W_region rfl ?_
 refine S_assign rfl rfl rfl (v := (.int .i64 0)) (rfl) ?_
 refine OPS.nil ?_
 change WP _ _ _ _ _ _
 refine W_block ?_
 refine W_loop (fun k σ w => σ 0 = .pointer (some ⟨kb, 0, none⟩) ∧ σ 2 = .int .i64 0 ∧ w0 = w) (0) ⟨rfl, rfl, rfl⟩ ?_
 rintro k σ w ⟨s0, s1, rfl⟩
 refine W_seq ?_
 refine W_seq ?_
 refine W_region rfl ?_
 refine S_move rfl rfl rfl (v := (.int .i64 0)) (s1) ?_
 refine S_move rfl rfl rfl (v := (.pointer (some ⟨kb, 0, none⟩))) (s0) ?_
 refine S_nil rfl rfl rfl (rfl) ?_
 refine S_field ft_assayerlaw01_Book_11 rfl rfl rfl (g := kb) (o := 0) (rfl) (o' := 11) rfl ?_
 refine S_load rfl rfl rfl (rfl) (LD.blk1 ti_Lassayerlaw01_heldNode b0 (v := (.slice none 0 0)) rfl) ?_
 refine S_len Tryz.underlying42 rfl rfl rfl (rfl) (m := 0) (⟨_, _, rfl⟩) ?_
 refine S_bin rfl rfl rfl rfl rfl (rfl) (rfl) (v := .bool false) (by simp [binV]) ?_
 refine OPS.nil ?_
 change WP _ _ _ _ _ _
 refine W_cond rfl (b := false) (rfl) (fun h => (by cases h)) (fun _ => ?_)
 refine W_exit ?_
 change Fin' _ _ _ _ _ _
 refine End0 rfl ?_
 exact rfl

set_option maxHeartbeats 400000 in
theorem lookNode_e (w0 : World) (kb : Nat) (no : Int) (vI vR : Value) (hb : Blk w0 kb (bookCs no vI vR) 45) :
    Ret Tryz.prog 135 [(.pointer (some ⟨kb, 0, none⟩))] w0 (fun r w1 => r = .bool true ∧ w0 = w1) := by
 have b0 : Blk w0 kb [(.int .i64 no), (.slice none 0 0), vI, (.slice none 0 0), (.slice none 0 0), (.slice none 0 0), (.slice none 0 0), (.slice none 0 0), vR, (.slice none 0 0), (.slice none 0 0), (.slice none 0 0), (.slice none 0 0)] 45 := hb
 refine Ret_of (n := 64) Tryz.func135 rfl rfl (Nat.le_of_ble_eq_true rfl) ?_
 refine W_seq ?_
 refine W_region rfl ?_
 refine S_assign rfl rfl rfl (v := (.bool false)) (rfl) ?_
 refine OPS.nil ?_
 change WP _ _ _ _ _ _
 refine W_seq ?_
 refine W_seq ?_
 refine W_region rfl ?_
 refine S_assign rfl rfl rfl (v := (.int .i64 0)) (rfl) ?_
 refine OPS.nil ?_
 change WP _ _ _ _ _ _
 refine W_block ?_
 refine W_loop (fun k σ w => σ 0 = .pointer (some ⟨kb, 0, none⟩) ∧ σ 3 = .int .i64 0 ∧ w0 = w) (0) ⟨rfl, rfl, rfl⟩ ?_
 rintro k σ w ⟨s0, s1, rfl⟩
 refine W_seq ?_
 refine W_seq ?_
 refine W_region rfl ?_
 refine S_move rfl rfl rfl (v := (.int .i64 0)) (s1) ?_
 refine S_move rfl rfl rfl (v := (.pointer (some ⟨kb, 0, none⟩))) (s0) ?_
 refine S_nil rfl rfl rfl (rfl) ?_
 refine S_field ft_assayerlaw01_Book_11 rfl rfl rfl (g := kb) (o := 0) (rfl) (o' := 11) rfl ?_
 refine S_load rfl rfl rfl (rfl) (LD.blk1 ti_Lassayerlaw01_heldNode b0 (v := (.slice none 0 0)) rfl) ?_
 refine S_len Tryz.underlying42 rfl rfl rfl (rfl) (m := 0) (⟨_, _, rfl⟩) ?_
 refine S_bin rfl rfl rfl rfl rfl (rfl) (rfl) (v := .bool false) (by simp [binV]) ?_
 refine OPS.nil ?_
 change WP _ _ _ _ _ _
 refine W_cond rfl (b := false) (rfl) (fun h => (by cases h)) (fun _ => ?_)
 refine W_exit ?_
 change WP _ _ _ _ _ _
 refine W_seq ?_
 refine W_region rfl ?_
 refine S_assign rfl rfl rfl (v := (.bool true)) (rfl) ?_
 refine OPS.nil ?_
 change WP _ _ _ _ _ _
 refine W_ret ?_
 change Fin' _ _ _ _ _ _
 refine End1 (n := ⟨64, []⟩) (t := 2) rfl (by decide) (v := (.bool true)) (rfl) ?_
 exact ⟨rfl, rfl⟩

set_option maxHeartbeats 400000 in
theorem fillJob_e (w0 : World) (kb : Nat) (no : Int) (vI vR : Value) (hb : Blk w0 kb (bookCs no vI vR) 45) :
    Ret Tryz.prog 112 [(.pointer (some ⟨kb, 0, none⟩))] w0 (fun r w1 => w0 = w1) := by
 have b0 : Blk w0 kb [(.int .i64 no), (.slice none 0 0), vI, (.slice none 0 0), (.slice none 0 0), (.slice none 0 0), (.slice none 0 0), (.slice none 0 0), vR, (.slice none 0 0), (.slice none 0 0), (.slice none 0 0), (.slice none 0 0)] 45 := hb
 refine Ret_of (n := 35) Tryz.func112 rfl rfl (Nat.le_of_ble_eq_true rfl) ?_
 refine W_seq ?_
 refine W_region rfl ?_
 refine S_assign rfl rfl rfl (v := (.int .i64 0)) (rfl) ?_
 refine OPS.nil ?_
 change WP _ _ _ _ _ _
 refine W_block ?_
 refine W_loop (fun k σ w => σ 0 = .pointer (some ⟨kb, 0, none⟩) ∧ σ 2 = .int .i64 0 ∧ w0 = w) (0) ⟨rfl, rfl, rfl⟩ ?_
 rintro k σ w ⟨s0, s1, rfl⟩
 refine W_seq ?_
 refine W_seq ?_
 refine W_region rfl ?_
 refine S_move rfl rfl rfl (v := (.int .i64 0)) (s1) ?_
 refine S_move rfl rfl rfl (v := (.pointer (some ⟨kb, 0, none⟩))) (s0) ?_
 refine S_nil rfl rfl rfl (rfl) ?_
 refine S_field ft_assayerlaw01_Book_12 rfl rfl rfl (g := kb) (o := 0) (rfl) (o' := 12) rfl ?_
 refine S_load rfl rfl rfl (rfl) (LD.blk1 ti_Lassayerlaw01_heldJob b0 (v := (.slice none 0 0)) rfl) ?_
 refine S_len Tryz.underlying43 rfl rfl rfl (rfl) (m := 0) (⟨_, _, rfl⟩) ?_
 refine S_bin rfl rfl rfl rfl rfl (rfl) (rfl) (v := .bool false) (by simp [binV]) ?_
 refine OPS.nil ?_
 change WP _ _ _ _ _ _
 refine W_cond rfl (b := false) (rfl) (fun h => (by cases h)) (fun _ => ?_)
 refine W_exit ?_
 change Fin' _ _ _ _ _ _
 refine End0 rfl ?_
 exact rfl

set_option maxHeartbeats 400000 in
theorem growJob_e (w0 : World) (kb : Nat) (no : Int) (vI vR : Value) (hb : Blk w0 kb (bookCs no vI vR) 45) :
    Ret Tryz.prog 124 [(.pointer (some ⟨kb, 0, none⟩))] w0 (fun r w1 => w0 = w1) := by
 have b0 : Blk w0 kb [(.int .i64 no), (.slice none 0 0), vI, (.slice none 0 0), (.slice none 0 0), (.slice none 0 0), (.slice none 0 0), (.slice none 0 0), vR, (.slice none 0 0), (.slice none 0 0), (.slice none 0 0), (.slice none 0 0)] 45 := hb
 refine Ret_of (n := 42) Tryz.func124 rfl rfl (Nat.le_of_ble_eq_true rfl) ?_
 refine W_seq ?_
 refine W_region rfl ?_
 refine S_assign rfl rfl rfl (v := (.int .i64 0)) (rfl) ?_
 refine OPS.nil ?_
 change WP _ _ _ _ _ _
 refine W_block ?_
 refine W_loop (fun k σ w => σ 0 = .pointer (some ⟨kb, 0, none⟩) ∧ σ 2 = .int .i64 0 ∧ w0 = w) (0) ⟨rfl, rfl, rfl⟩ ?_
 rintro k σ w ⟨s0, s1, rfl⟩
 refine W_seq ?_
 refine W_seq ?_
 refine W_region rfl ?_
 refine S_move rfl rfl rfl (v := (.int .i64 0)) (s1) ?_
 refine S_move rfl rfl rfl (v := (.pointer (some ⟨kb, 0, none⟩))) (s0) ?_
 refine S_nil rfl rfl rfl (rfl) ?_
 refine S_field ft_assayerlaw01_Book_12 rfl rfl rfl (g := kb) (o := 0) (rfl) (o' := 12) rfl ?_
 refine S_load rfl rfl rfl (rfl) (LD.blk1 ti_Lassayerlaw01_heldJob b0 (v := (.slice none 0 0)) rfl) ?_
 refine S_len Tryz.underlying43 rfl rfl rfl (rfl) (m := 0) (⟨_, _, rfl⟩) ?_
 refine S_bin rfl rfl rfl rfl rfl (rfl) (rfl) (v := .bool false) (by simp [binV]) ?_
 refine OPS.nil ?_
 change WP _ _ _ _ _ _
 refine W_cond rfl (b := false) (rfl) (fun h => (by cases h)) (fun _ => ?_)
 refine W_exit ?_
 change Fin' _ _ _ _ _ _
 refine End0 rfl ?_
 exact rfl

set_option maxHeartbeats 400000 in
theorem lookJob_e (w0 : World) (kb : Nat) (no : Int) (vI vR : Value) (hb : Blk w0 kb (bookCs no vI vR) 45) :
    Ret Tryz.prog 136 [(.pointer (some ⟨kb, 0, none⟩))] w0 (fun r w1 => r = .bool true ∧ w0 = w1) := by
 have b0 : Blk w0 kb [(.int .i64 no), (.slice none 0 0), vI, (.slice none 0 0), (.slice none 0 0), (.slice none 0 0), (.slice none 0 0), (.slice none 0 0), vR, (.slice none 0 0), (.slice none 0 0), (.slice none 0 0), (.slice none 0 0)] 45 := hb
 refine Ret_of (n := 64) Tryz.func136 rfl rfl (Nat.le_of_ble_eq_true rfl) ?_
 refine W_seq ?_
 refine W_region rfl ?_
 refine S_assign rfl rfl rfl (v := (.bool false)) (rfl) ?_
 refine OPS.nil ?_
 change WP _ _ _ _ _ _
 refine W_seq ?_
 refine W_seq ?_
 refine W_region rfl ?_
 refine S_assign rfl rfl rfl (v := (.int .i64 0)) (rfl) ?_
 refine OPS.nil ?_
 change WP _ _ _ _ _ _
 refine W_block ?_
 refine W_loop (fun k σ w => σ 0 = .pointer (some ⟨kb, 0, none⟩) ∧ σ 3 = .int .i64 0 ∧ w0 = w) (0) ⟨rfl, rfl, rfl⟩ ?_
 rintro k σ w ⟨s0, s1, rfl⟩
 refine W_seq ?_
 refine W_seq ?_
 refine W_region rfl ?_
 refine S_move rfl rfl rfl (v := (.int .i64 0)) (s1) ?_
 refine S_move rfl rfl rfl (v := (.pointer (some ⟨kb, 0, none⟩))) (s0) ?_
 refine S_nil rfl rfl rfl (rfl) ?_
 refine S_field ft_assayerlaw01_Book_12 rfl rfl rfl (g := kb) (o := 0) (rfl) (o' := 12) rfl ?_
 refine S_load rfl rfl rfl (rfl) (LD.blk1 ti_Lassayerlaw01_heldJob b0 (v := (.slice none 0 0)) rfl) ?_
 refine S_len Tryz.underlying43 rfl rfl rfl (rfl) (m := 0) (⟨_, _, rfl⟩) ?_
 refine S_bin rfl rfl rfl rfl rfl (rfl) (rfl) (v := .bool false) (by simp [binV]) ?_
 refine OPS.nil ?_
 change WP _ _ _ _ _ _
 refine W_cond rfl (b := false) (rfl) (fun h => (by cases h)) (fun _ => ?_)
 refine W_exit ?_
 change WP _ _ _ _ _ _
 refine W_seq ?_
 refine W_region rfl ?_
 refine S_assign rfl rfl rfl (v := (.bool true)) (rfl) ?_
 refine OPS.nil ?_
 change WP _ _ _ _ _ _
 refine W_ret ?_
 change Fin' _ _ _ _ _ _
 refine End1 (n := ⟨64, []⟩) (t := 2) rfl (by decide) (v := (.bool true)) (rfl) ?_
 exact ⟨rfl, rfl⟩

end Go.Proofs.YtccmicegihlfbaaGreatDoor

/- The rounds of a book: all lists are marked. -/
namespace Go.Proofs.YtccmicegihlfbaaGreatDoor
open Go.RowKit

set_option maxHeartbeats 400000 in
theorem markInt32_c (w0 : World) (n : Int) (hn : 0 ≤ n ∧ n ≤ 1000000) :
    Ret Tryz.prog 209 [.int .i64 n] w0 (fun r w1 => r = .int .u32 (1000 + n) ∧ w0 = w1) := by
 refine Ret_of (n := 6) Tryz.func209 rfl rfl (Nat.le_of_ble_eq_true rfl) ?_
 refine W_seq ?_
 refine W_region rfl ?_
 refine S_assign rfl rfl rfl (v := (.int .u32 0)) (rfl) ?_
 refine OPS.nil ?_
 change WP _ _ _ _ _ _
 refine W_seq ?_
 refine W_region rfl ?_
 refine S_move rfl rfl rfl (v := .int .i64 n) (rfl) ?_
 refine S_add64 rfl rfl rfl rfl (rfl) (rfl) (by omega) ?_
 refine S_conv Tryz.underlying3 Tryz.underlying106 rfl rfl rfl (rfl) (b := (1000 + n)) (wrap_u32 (by omega) (by omega)) ?_
 refine S_assign rfl rfl rfl (v := (.int .u32 (1000 + n))) (rfl) ?_
 refine OPS.nil ?_
 change WP _ _ _ _ _ _
 refine W_ret ?_
 change Fin' _ _ _ _ _ _
 refine End1 (n := ⟨6, []⟩) (t := 2) rfl (by decide) (v := (.int .u32 (1000 + n))) (rfl) ?_
 exact ⟨rfl, rfl⟩

set_option maxHeartbeats 400000 in
theorem markRat_c (w0 : World) (n : Int) (hn : 0 ≤ n ∧ n ≤ 1000000) :
    Ret Tryz.prog 215 [.int .i64 n] w0 (fun r w1 => Below w0.heap.size w0 w1 ∧ ∃ g, r = .agg #[.bool false, .slice none 0 0, .slice (some ⟨g, 0, none⟩) 1 1] ∧ ON w0.heap.size w1 (.slice (some ⟨g, 0, none⟩) 1 1) [1000 + n]) := by
 have E := Below.refl w0.heap.size w0
 refine Ret_of (n := 8) Tryz.func215 rfl rfl (Nat.le_of_ble_eq_true rfl) ?_
 refine W_seq ?_
 refine W_region rfl ?_
 refine S_alloc ti_api_Rat rfl rfl (cs := [.bool false, .slice none 0 0, .slice none 0 0]) rfl ?_
 intro g1 w1 hg1 hs1 hB1 b1
 have hz1 := hB1.size
 have E := Below.step E hB1
 refine OPS.nil ?_
 change WP _ _ _ _ _ _
 refine W_seq ?_
 refine W_region rfl ?_
 refine S_move rfl rfl rfl (v := .int .i64 n) (rfl) ?_
 refine S_add64 rfl rfl rfl rfl (rfl) (rfl) (by omega) ?_
 refine S_conv Tryz.underlying3 Tryz.underlying106 rfl rfl rfl (rfl) (b := (1000 + n)) (wrap_u32 (by omega) (by omega)) ?_
 refine S_lit Tryz.underlying23 ti_uint32 rfl rfl (by decide) (by decide) rfl (vs := [(.int .u32 (1000 + n))]) (cs := [(.int .u32 (1000 + n))]) rfl rfl (by simp [Value.cells]) rfl ?_
 intro g2 w2 hg2 hs2 hB2 b2
 have hz2 := hB2.size
 have E := Below.step E hB2
 have hl_b1 := b1.lt
 have b1 := b1.below hB2
 replace b2 : Blk w2 g2 (nums .u32 [(1000 + n)]) 106 := b2
 refine S_build rfl rfl rfl (cs := [.bool false, .slice none 0 0, (.slice (some ⟨g2, 0, none⟩) 1 1)]) (by kernel_rfl) ?_
 refine S_store ti_api_Rat rfl rfl rfl rfl (g := g1) (o := 0) (rfl) (v := (.agg #[.bool false, .slice none 0 0, (.slice (some ⟨g2, 0, none⟩) 1 1)])) (rfl) (vs := [.bool false, .slice none 0 0, (.slice (some ⟨g2, 0, none⟩) 1 1)]) rfl rfl (by simp [Value.oneCell']) b1 (by simp) (cs' := [.bool false, .slice none 0 0, (.slice (some ⟨g2, 0, none⟩) 1 1)]) rfl ?_
 intro w3 hU3 b1
 have E := Below.stepU E hU3 (by omega)
 have b2 := b2.upd hU3 (by omega)
 have hz3 := hU3.size
 refine OPS.nil ?_
 change WP _ _ _ _ _ _
 refine W_ret ?_
 change Fin' _ _ _ _ _ _
 refine EndC (n := ⟨8, []⟩) (t := 2) rfl (by decide) (rfl) (LD.blk ti_api_Rat b1 (l := [.bool false, .slice none 0 0, (.slice (some ⟨g2, 0, none⟩) 1 1)]) rfl rfl) ?_
 exact ⟨E, g2, rfl, ON.mkNums (k := 1) b2 (U32.mk (by omega) (by omega) U32.nil) (by omega) (Nat.le_refl _) (by simp)⟩

set_option maxHeartbeats 400000 in
theorem fillInt32_c (w0 : World) {B : Nat} (kb : Nat) (no : Int) (vI vR : Value) (I R : List HE) (O : List OV) (HB : BOOK B kb w0 no vI vR I R O) (hX : ∀ h ∈ I, PK false h) (hB : B ≤ kb) :
    Ret Tryz.prog 102 [(.pointer (some ⟨kb, 0, none⟩))] w0 (fun r w1 => Below B w0 w1 ∧ ∃ I' O', BOOK B kb w1 no vI vR I' R O' ∧ I'.length = I.length ∧ (∀ h ∈ I', PF false O' h) ∧ (∀ o ∈ O, o ∈ O')) := by
 have E := Below.refl B w0
 have hB0 : B ≤ w0.heap.size := by have := HB.blk.lt; omega
 refine Ret_of (n := 35) Tryz.func102 rfl rfl (Nat.le_of_ble_eq_true rfl) ?_
 refine W_seq ?_
 refine W_region rfl ?_
 refine S_assign rfl rfl rfl (v := (.int .i64 0)) (rfl) ?_
 refine OPS.nil ?_
 change WP _ _ _ _ _ _
 refine W_block ?_
 refine W_loop (fun k σ w => ∃ (i : Nat) (X1 X2 : List HE) (O' : List OV), σ 0 = .pointer (some ⟨kb, 0, none⟩) ∧ σ 2 = .int .i64 (i : Int) ∧ X1.length = i ∧ X2.length = k ∧ i + k = I.length ∧ BOOK B kb w no vI vR (X1 ++ X2) R O' ∧ (∀ h ∈ X1, PF false O' h) ∧ (∀ h ∈ X2, PK false h) ∧ (∀ o ∈ O, o ∈ O') ∧ Below B w0 w) (I.length) ⟨0, [], I, O, rfl, rfl, rfl, rfl, by omega, HB, fun _ h => (by cases h), hX, fun _ h => h, E⟩ ?_
 rintro k σ w ⟨i, X1, X2, O', s0, s2, hX1, hX2, hik, HB, hF, hP, hO, E⟩
 have hxl : (X1 ++ X2).length = i + k := by simp; omega
 have hml := HB.rowI.rc.le
 refine W_seq ?_
 refine W_seq ?_
 refine W_region rfl ?_
 refine S_move rfl rfl rfl (v := (.int .i64 (i : Int))) (s2) ?_
 refine S_move rfl rfl rfl (v := (.pointer (some ⟨kb, 0, none⟩))) (s0) ?_
 refine S_nil rfl rfl rfl (rfl) ?_
 refine S_field ft_assayerlaw01_Book_2 rfl rfl rfl (g := kb) (o := 0) (rfl) (o' := 2) rfl ?_
 refine S_load rfl rfl rfl (rfl) (LD.blk1 ti_Lassayerlaw01_heldInt32 HB.blk (v := vI) rfl) ?_
 refine S_len Tryz.underlying33 rfl rfl rfl (rfl) (m := (X1 ++ X2).length) (HB.rowI.len) ?_
 refine S_bin rfl rfl rfl rfl rfl (rfl) (rfl) (v := .bool (decide ((i : Int) < ((X1 ++ X2).length : Int)))) rfl ?_
 refine OPS.nil ?_
 change WP _ _ _ _ _ _
 refine W_cond rfl (rfl) (fun hq11 => ?_) (fun hq11 => ?_)
 ·skip
  have pT := hq11
  replace hq11 := of_decide_eq_true hq11
  have qT := hq11
  obtain ⟨h0, X3, rfl⟩ : ∃ h Y, X2 = h :: Y := by
    cases X2 with
    | nil => simp at hX2; omega
    | cons h Y => exact ⟨h, Y, rfl⟩
  have hk1 := hP h0 (by simp)
  have hok := HB.okI (h := h0) (by simp)
  obtain ⟨A, m, c, n, xs, rfl, hn, hm⟩ := hk1.form hok
  have hlt := HB.lt
  have hkl := HB.blk.lt
  have hgA : ∀ g, bk (.slice A m c) = some g → g < w.heap.size := hlt _ (BOOK.memI (h := ⟨.slice A m c, .slice none 0 0, n, ⟨.slice A m c, kty false, ksz false, m, xs⟩⟩) (by simp))
  try rw [pT]
  refine W_skip ?_
  change WP _ _ _ _ _ _
  refine W_seq ?_
  refine W_block ?_
  refine W_seq ?_
  refine W_region rfl ?_
  refine S_move rfl rfl rfl (v := (.pointer (some ⟨kb, 0, none⟩))) (s0) ?_
  refine S_nil rfl rfl rfl (rfl) ?_
  refine S_field ft_assayerlaw01_Book_2 rfl rfl rfl (g := kb) (o := 0) (rfl) (o' := 2) rfl ?_
  refine S_load rfl rfl rfl (rfl) (LD.blk1 ti_Lassayerlaw01_heldInt32 HB.blk (v := vI) rfl) ?_
  refine S_move rfl rfl rfl (v := (.int .i64 (i : Int))) (s2) ?_
  obtain ⟨ad1, hp1, hc1⟩ := HB.atI
  refine S_idx Tryz.underlying33 ti_assayerlaw01_heldInt32 rfl rfl rfl rfl (rfl) (rfl) hp1 (by omega) ?_
  refine S_load rfl rfl rfl (rfl) (LD.cells ti_assayerlaw01_heldInt32 hc1 rfl) ?_
  refine S_alloc ti_assayerlaw01_heldInt32 rfl rfl (cs := [.slice none 0 0, .slice none 0 0, .int .i64 0]) rfl ?_
  intro g1 w1 hg1 hs1 hB1 b1
  have hz1 := hB1.size
  have E := Below.step E hB1 hB0
  have HB := HB.below hB1
  refine S_store ti_assayerlaw01_heldInt32 rfl rfl rfl rfl (g := g1) (o := 0) (rfl) (v := (.agg #[(.slice A m c), (.slice none 0 0), (.int .i64 n)])) (rfl) (vs := [(.slice A m c), (.slice none 0 0), (.int .i64 n)]) rfl rfl (by simp [Value.oneCell']) b1 (by simp) (cs' := [(.slice A m c), (.slice none 0 0), (.int .i64 n)]) rfl ?_
  intro w2 hU2 b1
  have E := Below.stepU E hU2 (by omega)
  have HB := HB.updHi hU2 hlt hkl (by omega)
  have hz2 := hU2.size
  refine OPS.nil ?_
  change WP _ _ _ _ _ _
  refine W_seq ?_
  refine W_region rfl ?_
  refine S_assign rfl rfl rfl (v := (.int .i64 0)) (rfl) ?_
  refine OPS.nil ?_
  change WP _ _ _ _ _ _
  refine W_block ?_
  refine W_loop (fun q σ w => ∃ (j : Nat) (h1 : HE) (O2 : List OV), σ 0 = .pointer (some ⟨kb, 0, none⟩) ∧ σ 2 = .int .i64 (i : Int) ∧ σ 3 = .pointer (some ⟨g1, 0, none⟩) ∧ σ 4 = .int .i64 (j : Int) ∧ j + q = m ∧ BOOK B kb w no vI vR (X1 ++ h1 :: X3) R O2 ∧ PP false O2 h1 j ∧ h1.l = (.slice A m c) ∧ h1.no = n ∧ h1.o.v = (.slice A m c) ∧ h1.o.m = m ∧ Blk w g1 [(.slice A m c), (.slice none 0 0), (.int .i64 n)] 158 ∧ (∀ o ∈ O', o ∈ O2) ∧ Below B w0 w) (m) ⟨0, _, O', s0, s2, rfl, rfl, by omega, HB, PP.start hk1, rfl, rfl, rfl, rfl, b1, fun _ ho => ho, E⟩ ?_
  rintro q σ w ⟨j, h1, O2, s0, s2, s3, s4, hjq, HB, hPP, hl1, hn1, hv1, hm1, b1, hO2, E⟩
  refine W_seq ?_
  refine W_seq ?_
  refine W_region rfl ?_
  refine S_move rfl rfl rfl (v := (.int .i64 (j : Int))) (s4) ?_
  refine S_field ft_assayerlaw01_heldInt32_0 rfl rfl rfl (g := g1) (o := 0) (s3) (o' := 0) rfl ?_
  refine S_load rfl rfl rfl (rfl) (LD.blk1 ti_Luint32 b1 (v := (.slice A m c)) rfl) ?_
  refine S_len Tryz.underlying22 rfl rfl rfl (rfl) (m := m) (⟨_, _, rfl⟩) ?_
  refine S_bin rfl rfl rfl rfl rfl (rfl) (rfl) (v := .bool (decide ((j : Int) < (m : Int)))) rfl ?_
  refine OPS.nil ?_
  change WP _ _ _ _ _ _
  refine W_cond rfl (rfl) (fun hq25 => ?_) (fun hq25 => ?_)
  ·skip
   have pT := hq25
   replace hq25 := of_decide_eq_true hq25
   have qT := hq25
   have hok1 := HB.okI (h := h1) (by simp)
   have hrow : Row B 106 1 w (.slice A m c) m h1.o.xs := by
     have := hok1
     unfold OV.ok at this
     rw [hv1, hm1, hPP.1.2.2.2.1, hPP.1.2.2.2.2.1] at this
     exact this
   obtain ⟨g, c2, e1, hc0, hbk, hmc⟩ := hrow.form (by omega)
   have eA : A = some ⟨g, 0, none⟩ := by cases e1; rfl
   have ec : c = c2 := by cases e1; rfl
   subst ec
   have hgg := hgA g hbk
   try rw [pT]
   refine W_skip ?_
   change WP _ _ _ _ _ _
   refine W_seq ?_
   refine W_block ?_
   refine D_begin mixed_ rfl rfl (fun w_ => Blk w_ g1 [(.slice A m c), (.slice none 0 0), (.int .i64 n)] 158) ?_
   intro w3 hB3 hz_3
   have hz3 := hB3.size
   have E := Below.step E hB3 hB0
   have HB := HB.below hB3
   have hl_b1 := b1.lt
   have b1 := b1.below hB3
   have hS_ := b1
   have E_S := E
   have HB_S := HB
   have b1_S := b1
   refine D_field ft_assayerlaw01_heldInt32_0 (i := 0) (listed2 := (bm 8 1)) (by kernel_rfl) rfl rfl rfl (g := g1) (o := 0) (s3) (o' := 0) rfl hS_ ?_
   refine D_load (i := 1) (listed2 := (bm 8 3)) (by kernel_rfl) rfl rfl rfl (rfl) (fun _ hS2 => LD.blk1 ti_Luint32 hS2 (v := (.slice A m c)) rfl) hS_ ?_
   refine D_move (i := 2) (listed2 := (bm 8 7)) (by kernel_rfl) rfl rfl rfl (v := (.int .i64 (j : Int))) (s4) hS_ ?_
   refine D_field ft_assayerlaw01_heldInt32_2 (i := 3) (listed2 := (bm 8 15)) (by kernel_rfl) rfl rfl rfl (g := g1) (o := 0) (s3) (o' := 2) rfl hS_ ?_
   refine D_load (i := 4) (listed2 := (bm 8 31)) (by kernel_rfl) rfl rfl rfl (rfl) (fun _ hS2 => LD.blk1 ti_int hS2 (v := (.int .i64 n)) rfl) hS_ ?_
   refine D_only (i := 5) (by kernel_rfl) (listed2 := (bm 8 63)) (by kernel_rfl) ?_
   refine S_call en_assayerlaw01_markInt32 rfl rfl rfl (vs := [(.int .i64 n)]) (rfl) (markInt32_c _ n hn) ?_
   rintro _ _ ⟨rfl, rfl⟩
   have hS_ := b1
   refine OPS.nil ⟨hS_, ?_⟩
   refine D_idx Tryz.underlying22 ti_uint32 (i := 6) (listed2 := (bm 8 127)) (by kernel_rfl) rfl rfl rfl rfl (v := .slice A m c) (rfl) (rfl) (m := m) (j := j) (ad := ⟨g, j * 1, none⟩) ⟨⟨g, 0, none⟩, c, by rw [eA], by omega, by rw [add_plain]; simp⟩ (by omega) hS_ ?_
   refine D_last (i := 7) (f := 8) (by kernel_rfl) (by kernel_rfl) (listed2 := (bm 8 255)) (by kernel_rfl) ?_
   have hok2 := HB.okI (h := h1) (by simp)
   have hrow2 : Row B 106 1 w3 (.slice (some ⟨g, 0, none⟩) m c) m h1.o.xs := by
     have := hok2
     unfold OV.ok at this
     rw [hv1, hm1, hPP.1.2.2.2.1, hPP.1.2.2.2.2.1, eA] at this
     exact this
   refine S_storeR ti_uint32 rfl rfl rfl rfl hrow2 hc0 (rfl) (rfl) (vs := [.int .u32 (1000 + n)]) rfl rfl (by simp [Value.oneCell']) (by simp; omega) ?_
   intro w4 hU hr
   have hd : MC false O2 h1.no [.int .u32 (1000 + n)] := by rw [hn1]; exact rfl
   have hPP := hPP.step hok2 (by omega) hd
   have HB := HB.updI (o := { h1.o with xs := putAt h1.o.xs (j * ksz false) [.int .u32 (1000 + n)] }) hU (by rw [hv1]; exact hbk) rfl (by unfold OV.ok; simp only []; rw [hv1, hm1, hPP.1.2.2.2.1, hPP.1.2.2.2.2.1, eA]; exact hr)
   have b1 := b1.upd hU (by omega)
   have E := Below.stepU E hU (hrow2.bkB g (bk_some hc0)).1
   refine OPS.nil ?_
   refine D_done (by kernel_rfl) ?_
   change WP _ _ _ _ _ _
   refine W_region rfl ?_
   refine S_move rfl rfl rfl (v := (.int .i64 (j : Int))) (s4) ?_
   refine S_add64 rfl rfl rfl rfl (rfl) (rfl) (by omega) ?_
   refine S_assign rfl rfl rfl (v := (.int .i64 ((j : Int) + 1))) (rfl) ?_
   refine OPS.nil ?_
   exact ⟨q - 1, by omega, j + 1, _, O2, s0, s2, s3, int_eq (by omega), by omega, HB, hPP, hl1, hn1, hv1, hm1, b1, hO2, E⟩
  ·skip
   have pF := hq25
   replace hq25 := of_decide_eq_false hq25
   have qF := hq25
   try rw [pF]
   refine W_exit ?_
   change WP _ _ _ _ _ _
   refine W_region rfl ?_
   have hjm : j = m := by omega
   have hPF := PP.done (h := h1) (by rw [hm1, ← hjm]; exact hPP) (HB.okI (h := h1) (by simp))
   refine S_move rfl rfl rfl (v := (.int .i64 (i : Int))) (s2) ?_
   refine S_add64 rfl rfl rfl rfl (rfl) (rfl) (by omega) ?_
   refine S_assign rfl rfl rfl (v := (.int .i64 ((i : Int) + 1))) (rfl) ?_
   refine OPS.nil ?_
   refine ⟨k - 1, by omega, i + 1, X1 ++ [h1], X3, O2, s0, int_eq (by omega), by simp; omega, by simp at hX2; omega, by omega, by rw [List.append_assoc]; exact HB, fun p hp => ?_, fun p hp => hP p (by simp [hp]), fun o ho => hO2 _ (hO o ho), E⟩
   rcases List.mem_append.1 hp with hp | hp
   · exact (hF p hp).mono hO2
   · rw [List.mem_singleton] at hp; subst hp; exact hPF
 ·skip
  have pF := hq11
  replace hq11 := of_decide_eq_false hq11
  have qF := hq11
  try rw [pF]
  refine W_exit ?_
  change Fin' _ _ _ _ _ _
  refine End0 rfl ?_
  exact ⟨E, X1 ++ X2, O', HB, by rw [hxl]; omega, fun p hp => (List.mem_append.1 hp).elim (hF p) (fun hp => by cases X2 with | nil => cases hp | cons x l => simp at hX2; omega), hO⟩

set_option maxHeartbeats 400000 in
theorem fillRat_c (w0 : World) {B : Nat} (kb : Nat) (no : Int) (vI vR : Value) (I R : List HE) (O : List OV) (HB : BOOK B kb w0 no vI vR I R O) (hX : ∀ h ∈ R, PK true h) (hB : B ≤ kb) :
    Ret Tryz.prog 108 [(.pointer (some ⟨kb, 0, none⟩))] w0 (fun r w1 => Below B w0 w1 ∧ ∃ R' O', BOOK B kb w1 no vI vR I R' O' ∧ R'.length = R.length ∧ (∀ h ∈ R', PF true O' h) ∧ (∀ o ∈ O, o ∈ O')) := by
 have E := Below.refl B w0
 have hB0 : B ≤ w0.heap.size := by have := HB.blk.lt; omega
 refine Ret_of (n := 35) Tryz.func108 rfl rfl (Nat.le_of_ble_eq_true rfl) ?_
 refine W_seq ?_
 refine W_region rfl ?_
 refine S_assign rfl rfl rfl (v := (.int .i64 0)) (rfl) ?_
 refine OPS.nil ?_
 change WP _ _ _ _ _ _
 refine W_block ?_
 refine W_loop (fun k σ w => ∃ (i : Nat) (X1 X2 : List HE) (O' : List OV), σ 0 = .pointer (some ⟨kb, 0, none⟩) ∧ σ 2 = .int .i64 (i : Int) ∧ X1.length = i ∧ X2.length = k ∧ i + k = R.length ∧ BOOK B kb w no vI vR I (X1 ++ X2) O' ∧ (∀ h ∈ X1, PF true O' h) ∧ (∀ h ∈ X2, PK true h) ∧ (∀ o ∈ O, o ∈ O') ∧ Below B w0 w) (R.length) ⟨0, [], R, O, rfl, rfl, rfl, rfl, by omega, HB, fun _ h => (by cases h), hX, fun _ h => h, E⟩ ?_
 rintro k σ w ⟨i, X1, X2, O', s0, s2, hX1, hX2, hik, HB, hF, hP, hO, E⟩
 have hxl : (X1 ++ X2).length = i + k := by simp; omega
 have hml := HB.rowH.rc.le
 refine W_seq ?_
 refine W_seq ?_
 refine W_region rfl ?_
 refine S_move rfl rfl rfl (v := (.int .i64 (i : Int))) (s2) ?_
 refine S_move rfl rfl rfl (v := (.pointer (some ⟨kb, 0, none⟩))) (s0) ?_
 refine S_nil rfl rfl rfl (rfl) ?_
 refine S_field ft_assayerlaw01_Book_8 rfl rfl rfl (g := kb) (o := 0) (rfl) (o' := 8) rfl ?_
 refine S_load rfl rfl rfl (rfl) (LD.blk1 ti_Lassayerlaw01_heldRat HB.blk (v := vR) rfl) ?_
 refine S_len Tryz.underlying39 rfl rfl rfl (rfl) (m := (X1 ++ X2).length) (HB.rowH.len) ?_
 refine S_bin rfl rfl rfl rfl rfl (rfl) (rfl) (v := .bool (decide ((i : Int) < ((X1 ++ X2).length : Int)))) rfl ?_
 refine OPS.nil ?_
 change WP _ _ _ _ _ _
 refine W_cond rfl (rfl) (fun hq11 => ?_) (fun hq11 => ?_)
 ·skip
  have pT := hq11
  replace hq11 := of_decide_eq_true hq11
  have qT := hq11
  obtain ⟨h0, X3, rfl⟩ : ∃ h Y, X2 = h :: Y := by
    cases X2 with
    | nil => simp at hX2; omega
    | cons h Y => exact ⟨h, Y, rfl⟩
  have hk1 := hP h0 (by simp)
  have hok := HB.okR (h := h0) (by simp)
  obtain ⟨A, m, c, n, xs, rfl, hn, hm⟩ := hk1.form hok
  have hlt := HB.lt
  have hkl := HB.blk.lt
  have hgA : ∀ g, bk (.slice A m c) = some g → g < w.heap.size := hlt _ (BOOK.memR (h := ⟨.slice A m c, .slice none 0 0, n, ⟨.slice A m c, kty true, ksz true, m, xs⟩⟩) (by simp))
  try rw [pT]
  refine W_skip ?_
  change WP _ _ _ _ _ _
  refine W_seq ?_
  refine W_block ?_
  refine W_seq ?_
  refine W_region rfl ?_
  refine S_move rfl rfl rfl (v := (.pointer (some ⟨kb, 0, none⟩))) (s0) ?_
  refine S_nil rfl rfl rfl (rfl) ?_
  refine S_field ft_assayerlaw01_Book_8 rfl rfl rfl (g := kb) (o := 0) (rfl) (o' := 8) rfl ?_
  refine S_load rfl rfl rfl (rfl) (LD.blk1 ti_Lassayerlaw01_heldRat HB.blk (v := vR) rfl) ?_
  refine S_move rfl rfl rfl (v := (.int .i64 (i : Int))) (s2) ?_
  obtain ⟨ad1, hp1, hc1⟩ := HB.atR
  refine S_idx Tryz.underlying39 ti_assayerlaw01_heldRat rfl rfl rfl rfl (rfl) (rfl) hp1 (by omega) ?_
  refine S_load rfl rfl rfl (rfl) (LD.cells ti_assayerlaw01_heldRat hc1 rfl) ?_
  refine S_alloc ti_assayerlaw01_heldRat rfl rfl (cs := [.slice none 0 0, .slice none 0 0, .int .i64 0]) rfl ?_
  intro g1 w1 hg1 hs1 hB1 b1
  have hz1 := hB1.size
  have E := Below.step E hB1 hB0
  have HB := HB.below hB1
  refine S_store ti_assayerlaw01_heldRat rfl rfl rfl rfl (g := g1) (o := 0) (rfl) (v := (.agg #[(.slice A m c), (.slice none 0 0), (.int .i64 n)])) (rfl) (vs := [(.slice A m c), (.slice none 0 0), (.int .i64 n)]) rfl rfl (by simp [Value.oneCell']) b1 (by simp) (cs' := [(.slice A m c), (.slice none 0 0), (.int .i64 n)]) rfl ?_
  intro w2 hU2 b1
  have E := Below.stepU E hU2 (by omega)
  have HB := HB.updHi hU2 hlt hkl (by omega)
  have hz2 := hU2.size
  refine OPS.nil ?_
  change WP _ _ _ _ _ _
  refine W_seq ?_
  refine W_region rfl ?_
  refine S_assign rfl rfl rfl (v := (.int .i64 0)) (rfl) ?_
  refine OPS.nil ?_
  change WP _ _ _ _ _ _
  refine W_block ?_
  refine W_loop (fun q σ w => ∃ (j : Nat) (h1 : HE) (O2 : List OV), σ 0 = .pointer (some ⟨kb, 0, none⟩) ∧ σ 2 = .int .i64 (i : Int) ∧ σ 3 = .pointer (some ⟨g1, 0, none⟩) ∧ σ 4 = .int .i64 (j : Int) ∧ j + q = m ∧ BOOK B kb w no vI vR I (X1 ++ h1 :: X3) O2 ∧ PP true O2 h1 j ∧ h1.l = (.slice A m c) ∧ h1.no = n ∧ h1.o.v = (.slice A m c) ∧ h1.o.m = m ∧ Blk w g1 [(.slice A m c), (.slice none 0 0), (.int .i64 n)] 183 ∧ (∀ o ∈ O', o ∈ O2) ∧ Below B w0 w) (m) ⟨0, _, O', s0, s2, rfl, rfl, by omega, HB, PP.start hk1, rfl, rfl, rfl, rfl, b1, fun _ ho => ho, E⟩ ?_
  rintro q σ w ⟨j, h1, O2, s0, s2, s3, s4, hjq, HB, hPP, hl1, hn1, hv1, hm1, b1, hO2, E⟩
  refine W_seq ?_
  refine W_seq ?_
  refine W_region rfl ?_
  refine S_move rfl rfl rfl (v := (.int .i64 (j : Int))) (s4) ?_
  refine S_field ft_assayerlaw01_heldRat_0 rfl rfl rfl (g := g1) (o := 0) (s3) (o' := 0) rfl ?_
  refine S_load rfl rfl rfl (rfl) (LD.blk1 ti_Lapi_Rat b1 (v := (.slice A m c)) rfl) ?_
  refine S_len Tryz.underlying49 rfl rfl rfl (rfl) (m := m) (⟨_, _, rfl⟩) ?_
  refine S_bin rfl rfl rfl rfl rfl (rfl) (rfl) (v := .bool (decide ((j : Int) < (m : Int)))) rfl ?_
  refine OPS.nil ?_
  change WP _ _ _ _ _ _
  refine W_cond rfl (rfl) (fun hq25 => ?_) (fun hq25 => ?_)
  ·skip
   have pT := hq25
   replace hq25 := of_decide_eq_true hq25
   have qT := hq25
   have hok1 := HB.okR (h := h1) (by simp)
   have hrow : Row B 70 3 w (.slice A m c) m h1.o.xs := by
     have := hok1
     unfold OV.ok at this
     rw [hv1, hm1, hPP.1.2.2.2.1, hPP.1.2.2.2.2.1] at this
     exact this
   obtain ⟨g, c2, e1, hc0, hbk, hmc⟩ := hrow.form (by omega)
   have eA : A = some ⟨g, 0, none⟩ := by cases e1; rfl
   have ec : c = c2 := by cases e1; rfl
   subst ec
   have hgg := hgA g hbk
   try rw [pT]
   refine W_skip ?_
   change WP _ _ _ _ _ _
   refine W_seq ?_
   refine W_block ?_
   refine D_begin mixed_ rfl rfl (fun w_ => Blk w_ g1 [(.slice A m c), (.slice none 0 0), (.int .i64 n)] 183) ?_
   intro w3 hB3 hz_3
   have hz3 := hB3.size
   have E := Below.step E hB3 hB0
   have HB := HB.below hB3
   have hl_b1 := b1.lt
   have b1 := b1.below hB3
   have hS_ := b1
   have E_S := E
   have HB_S := HB
   have b1_S := b1
   refine D_field ft_assayerlaw01_heldRat_0 (i := 0) (listed2 := (bm 8 1)) (by kernel_rfl) rfl rfl rfl (g := g1) (o := 0) (s3) (o' := 0) rfl hS_ ?_
   refine D_load (i := 1) (listed2 := (bm 8 3)) (by kernel_rfl) rfl rfl rfl (rfl) (fun _ hS2 => LD.blk1 ti_Lapi_Rat hS2 (v := (.slice A m c)) rfl) hS_ ?_
   refine D_move (i := 2) (listed2 := (bm 8 7)) (by kernel_rfl) rfl rfl rfl (v := (.int .i64 (j : Int))) (s4) hS_ ?_
   refine D_field ft_assayerlaw01_heldRat_2 (i := 3) (listed2 := (bm 8 15)) (by kernel_rfl) rfl rfl rfl (g := g1) (o := 0) (s3) (o' := 2) rfl hS_ ?_
   refine D_load (i := 4) (listed2 := (bm 8 31)) (by kernel_rfl) rfl rfl rfl (rfl) (fun _ hS2 => LD.blk1 ti_int hS2 (v := (.int .i64 n)) rfl) hS_ ?_
   refine D_only (i := 5) (by kernel_rfl) (listed2 := (bm 8 63)) (by kernel_rfl) ?_
   have HBold := HB
   refine S_call en_assayerlaw01_markRat rfl rfl rfl (vs := [(.int .i64 n)]) (rfl) (markRat_c _ n hn) ?_
   rintro _ w4 ⟨hB4, gm, rfl, hm2⟩
   have hz4 := hB4.size
   have E := Below.step E hB4 hB0
   have HB := HB.below hB4
   have hl_b1 := b1.lt
   have b1 := b1.below hB4
   have HBm := HBold.new (o := ovN (.slice (some ⟨gm, 0, none⟩) 1 1) [1000 + n]) (by assumption) (fun k hk => (hm2.bkB k hk).1) (hm2.mono (by have := HBold.blk.lt; omega)).ov
   have hS_ := b1
   refine OPS.nil ⟨hS_, ?_⟩
   refine D_idx Tryz.underlying49 ti_api_Rat (i := 6) (listed2 := (bm 8 127)) (by kernel_rfl) rfl rfl rfl rfl (v := .slice A m c) (rfl) (rfl) (m := m) (j := j) (ad := ⟨g, j * 3, none⟩) ⟨⟨g, 0, none⟩, c, by rw [eA], by omega, by rw [add_plain]; simp⟩ (by omega) hS_ ?_
   refine D_last (i := 7) (f := 8) (by kernel_rfl) (by kernel_rfl) (listed2 := (bm 8 255)) (by kernel_rfl) ?_
   have HB := HBm
   have hPP := hPP.mono (O' := (ovN (.slice (some ⟨gm, 0, none⟩) 1 1) [1000 + n] :: O2)) (fun o ho => List.mem_cons_of_mem _ ho)
   have hok2 := HB.okR (h := h1) (by simp)
   have hrow2 : Row B 70 3 w4 (.slice (some ⟨g, 0, none⟩) m c) m h1.o.xs := by
     have := hok2
     unfold OV.ok at this
     rw [hv1, hm1, hPP.1.2.2.2.1, hPP.1.2.2.2.2.1, eA] at this
     exact this
   refine S_storeR ti_api_Rat rfl rfl rfl rfl hrow2 hc0 (rfl) (rfl) (vs := [.bool false, .slice none 0 0, .slice (some ⟨gm, 0, none⟩) 1 1]) rfl rfl (by simp [Value.oneCell']) (by simp; omega) ?_
   intro w5 hU hr
   have hd : MC true (ovN (.slice (some ⟨gm, 0, none⟩) 1 1) [1000 + n] :: O2) h1.no [.bool false, .slice none 0 0, .slice (some ⟨gm, 0, none⟩) 1 1] := by rw [hn1]; exact ⟨_, rfl, by simp⟩
   have hPP := hPP.step hok2 (by omega) hd
   have HB := HB.updR (o := { h1.o with xs := putAt h1.o.xs (j * ksz true) [.bool false, .slice none 0 0, .slice (some ⟨gm, 0, none⟩) 1 1] }) hU (by rw [hv1]; exact hbk) rfl (by unfold OV.ok; simp only []; rw [hv1, hm1, hPP.1.2.2.2.1, hPP.1.2.2.2.2.1, eA]; exact hr)
   have b1 := b1.upd hU (by omega)
   have E := Below.stepU E hU (hrow2.bkB g (bk_some hc0)).1
   refine OPS.nil ?_
   refine D_done (by kernel_rfl) ?_
   change WP _ _ _ _ _ _
   refine W_region rfl ?_
   refine S_move rfl rfl rfl (v := (.int .i64 (j : Int))) (s4) ?_
   refine S_add64 rfl rfl rfl rfl (rfl) (rfl) (by omega) ?_
   refine S_assign rfl rfl rfl (v := (.int .i64 ((j : Int) + 1))) (rfl) ?_
   refine OPS.nil ?_
   exact ⟨q - 1, by omega, j + 1, _, (ovN (.slice (some ⟨gm, 0, none⟩) 1 1) [1000 + n] :: O2), s0, s2, s3, int_eq (by omega), by omega, HB, hPP, hl1, hn1, hv1, hm1, b1, fun o ho => List.mem_cons_of_mem _ (hO2 o ho), E⟩
  ·skip
   have pF := hq25
   replace hq25 := of_decide_eq_false hq25
   have qF := hq25
   try rw [pF]
   refine W_exit ?_
   change WP _ _ _ _ _ _
   refine W_region rfl ?_
   have hjm : j = m := by omega
   have hPF := PP.done (h := h1) (by rw [hm1, ← hjm]; exact hPP) (HB.okR (h := h1) (by simp))
   refine S_move rfl rfl rfl (v := (.int .i64 (i : Int))) (s2) ?_
   refine S_add64 rfl rfl rfl rfl (rfl) (rfl) (by omega) ?_
   refine S_assign rfl rfl rfl (v := (.int .i64 ((i : Int) + 1))) (rfl) ?_
   refine OPS.nil ?_
   refine ⟨k - 1, by omega, i + 1, X1 ++ [h1], X3, O2, s0, int_eq (by omega), by simp; omega, by simp at hX2; omega, by omega, by rw [List.append_assoc]; exact HB, fun p hp => ?_, fun p hp => hP p (by simp [hp]), fun o ho => hO2 _ (hO o ho), E⟩
   rcases List.mem_append.1 hp with hp | hp
   · exact (hF p hp).mono hO2
   · rw [List.mem_singleton] at hp; subst hp; exact hPF
 ·skip
  have pF := hq11
  replace hq11 := of_decide_eq_false hq11
  have qF := hq11
  try rw [pF]
  refine W_exit ?_
  change Fin' _ _ _ _ _ _
  refine End0 rfl ?_
  exact ⟨E, X1 ++ X2, O', HB, by rw [hxl]; omega, fun p hp => (List.mem_append.1 hp).elim (hF p) (fun hp => by cases X2 with | nil => cases hp | cons x l => simp at hX2; omega), hO⟩

end Go.Proofs.YtccmicegihlfbaaGreatDoor

/- The rounds of a book: all lists are grown. -/
namespace Go.Proofs.YtccmicegihlfbaaGreatDoor
open Go.RowKit

set_option maxHeartbeats 400000 in
theorem growInt32_c (w0 : World) {B : Nat} (kb : Nat) (no : Int) (vI vR : Value) (I R : List HE) (O : List OV) (HB : BOOK B kb w0 no vI vR I R O) (hX : ∀ h ∈ I, PF false O h) (hB : B ≤ kb) :
    Ret Tryz.prog 114 [(.pointer (some ⟨kb, 0, none⟩))] w0 (fun r w1 => Below B w0 w1 ∧ ∃ I' O', BOOK B kb w1 no vI vR I' R O' ∧ I'.length = I.length ∧ (∀ h ∈ I', PD false O' h) ∧ (∀ o ∈ O, o ∈ O')) := by
 have E := Below.refl B w0
 have hB0 : B ≤ w0.heap.size := by have := HB.blk.lt; omega
 refine Ret_of (n := 42) Tryz.func114 rfl rfl (Nat.le_of_ble_eq_true rfl) ?_
 refine W_seq ?_
 refine W_region rfl ?_
 refine S_assign rfl rfl rfl (v := (.int .i64 0)) (rfl) ?_
 refine OPS.nil ?_
 change WP _ _ _ _ _ _
 refine W_block ?_
 refine W_loop (fun k σ w => ∃ (i : Nat) (X1 X2 : List HE) (O' : List OV), σ 0 = .pointer (some ⟨kb, 0, none⟩) ∧ σ 2 = .int .i64 (i : Int) ∧ X1.length = i ∧ X2.length = k ∧ i + k = I.length ∧ BOOK B kb w no vI vR (X1 ++ X2) R O' ∧ (∀ h ∈ X1, PD false O' h) ∧ (∀ h ∈ X2, PF false O' h) ∧ (∀ o ∈ O, o ∈ O') ∧ Below B w0 w) (I.length) ⟨0, [], I, O, rfl, rfl, rfl, rfl, by omega, HB, fun _ h => (by cases h), hX, fun _ h => h, E⟩ ?_
 rintro k σ w ⟨i, X1, X2, O', s0, s2, hX1, hX2, hik, HB, hF, hP, hO, E⟩
 have hxl : (X1 ++ X2).length = i + k := by simp; omega
 have hml := HB.rowI.rc.le
 refine W_seq ?_
 refine W_seq ?_
 refine W_region rfl ?_
 refine S_move rfl rfl rfl (v := (.int .i64 (i : Int))) (s2) ?_
 refine S_move rfl rfl rfl (v := (.pointer (some ⟨kb, 0, none⟩))) (s0) ?_
 refine S_nil rfl rfl rfl (rfl) ?_
 refine S_field ft_assayerlaw01_Book_2 rfl rfl rfl (g := kb) (o := 0) (rfl) (o' := 2) rfl ?_
 refine S_load rfl rfl rfl (rfl) (LD.blk1 ti_Lassayerlaw01_heldInt32 HB.blk (v := vI) rfl) ?_
 refine S_len Tryz.underlying33 rfl rfl rfl (rfl) (m := (X1 ++ X2).length) (HB.rowI.len) ?_
 refine S_bin rfl rfl rfl rfl rfl (rfl) (rfl) (v := .bool (decide ((i : Int) < ((X1 ++ X2).length : Int)))) rfl ?_
 refine OPS.nil ?_
 change WP _ _ _ _ _ _
 refine W_cond rfl (rfl) (fun hq12 => ?_) (fun hq12 => ?_)
 ·skip
  have pT := hq12
  replace hq12 := of_decide_eq_true hq12
  have qT := hq12
  obtain ⟨h0, X3, rfl⟩ : ∃ h Y, X2 = h :: Y := by
    cases X2 with
    | nil => simp at hX2; omega
    | cons h Y => exact ⟨h, Y, rfl⟩
  have hk1 := hP h0 (by simp)
  have hok := HB.okI (h := h0) (by simp)
  obtain ⟨A, m, c, n, xs, rfl, hn, hm⟩ := hk1.1.form hok
  have hlt := HB.lt
  have hkl := HB.blk.lt
  have hgA : ∀ g, bk (.slice A m c) = some g → g < w.heap.size := hlt _ (BOOK.memI (h := ⟨.slice A m c, .slice none 0 0, n, ⟨.slice A m c, kty false, ksz false, m, xs⟩⟩) (by simp))
  try rw [pT]
  refine W_skip ?_
  change WP _ _ _ _ _ _
  refine W_seq ?_
  refine W_block ?_
  refine W_seq ?_
  refine W_region rfl ?_
  refine S_move rfl rfl rfl (v := (.pointer (some ⟨kb, 0, none⟩))) (s0) ?_
  refine S_nil rfl rfl rfl (rfl) ?_
  refine S_field ft_assayerlaw01_Book_2 rfl rfl rfl (g := kb) (o := 0) (rfl) (o' := 2) rfl ?_
  refine S_load rfl rfl rfl (rfl) (LD.blk1 ti_Lassayerlaw01_heldInt32 HB.blk (v := vI) rfl) ?_
  refine S_move rfl rfl rfl (v := (.int .i64 (i : Int))) (s2) ?_
  obtain ⟨ad1, hp1, hc1⟩ := HB.atI
  refine S_idx Tryz.underlying33 ti_assayerlaw01_heldInt32 rfl rfl rfl rfl (rfl) (rfl) hp1 (by omega) ?_
  refine S_load rfl rfl rfl (rfl) (LD.cells ti_assayerlaw01_heldInt32 hc1 rfl) ?_
  refine S_alloc ti_assayerlaw01_heldInt32 rfl rfl (cs := [.slice none 0 0, .slice none 0 0, .int .i64 0]) rfl ?_
  intro g1 w1 hg1 hs1 hB1 b1
  have hz1 := hB1.size
  have E := Below.step E hB1 hB0
  have HB := HB.below hB1
  refine S_store ti_assayerlaw01_heldInt32 rfl rfl rfl rfl (g := g1) (o := 0) (rfl) (v := (.agg #[(.slice A m c), (.slice none 0 0), (.int .i64 n)])) (rfl) (vs := [(.slice A m c), (.slice none 0 0), (.int .i64 n)]) rfl rfl (by simp [Value.oneCell']) b1 (by simp) (cs' := [(.slice A m c), (.slice none 0 0), (.int .i64 n)]) rfl ?_
  intro w2 hU2 b1
  have E := Below.stepU E hU2 (by omega)
  have HB := HB.updHi hU2 hlt hkl (by omega)
  have hz2 := hU2.size
  refine OPS.nil ?_
  change WP _ _ _ _ _ _
  refine W_seq ?_
  refine W_region rfl ?_
  refine S_field ft_assayerlaw01_heldInt32_0 rfl rfl rfl (g := g1) (o := 0) (rfl) (o' := 0) rfl ?_
  refine S_load rfl rfl rfl (rfl) (LD.blk1 ti_Luint32 b1 (v := (.slice A m c)) rfl) ?_
  refine S_assign rfl rfl rfl (v := (.slice A m c)) (rfl) ?_
  refine OPS.nil ?_
  change WP _ _ _ _ _ _
  refine W_seq ?_
  refine W_seq ?_
  refine W_region rfl ?_
  refine S_assign rfl rfl rfl (v := (.int .i64 0)) (rfl) ?_
  refine OPS.nil ?_
  change WP _ _ _ _ _ _
  refine W_block ?_
  refine W_loop (fun q σ w => ∃ (j : Nat) (h1 : HE) (O2 : List OV), σ 0 = .pointer (some ⟨kb, 0, none⟩) ∧ σ 2 = .int .i64 (i : Int) ∧ σ 3 = .pointer (some ⟨g1, 0, none⟩) ∧ σ 4 = h1.o.v ∧ σ 5 = .int .i64 (j : Int) ∧ j + q = 40 ∧ BOOK B kb w no vI vR (X1 ++ h1 :: X3) R O2 ∧ PG false O2 h1 j ∧ h1.no = n ∧ bk h1.o.v ≠ some g1 ∧ Blk w g1 [(.slice A m c), (.slice none 0 0), (.int .i64 n)] 158 ∧ (∀ o ∈ O', o ∈ O2) ∧ Below B w0 w) (40) ⟨0, _, O', s0, s2, rfl, rfl, rfl, by omega, HB, PG.start hk1 hok, rfl, fun e => by have := hgA _ e; omega, b1, fun _ ho => ho, E⟩ ?_
  rintro q σ w ⟨j, h1, O2, s0, s2, s3, s4, s5, hjq, HB, hPG, hn1, hne, b1, hO2, E⟩
  refine W_seq ?_
  refine W_seq ?_
  refine W_region rfl ?_
  refine S_move rfl rfl rfl (v := (.int .i64 (j : Int))) (s5) ?_
  refine S_bin rfl rfl rfl rfl rfl (rfl) (rfl) (v := .bool (decide ((j : Int) < 40))) rfl ?_
  refine OPS.nil ?_
  change WP _ _ _ _ _ _
  refine W_cond rfl (rfl) (fun hq25 => ?_) (fun hq25 => ?_)
  ·skip
   have pT := hq25
   replace hq25 := of_decide_eq_true hq25
   have qT := hq25
   try rw [pT]
   refine W_skip ?_
   change WP _ _ _ _ _ _
   refine W_seq ?_
   refine W_block ?_
   refine W_region rfl ?_
   refine S_move rfl rfl rfl (v := h1.o.v) (s4) ?_
   refine S_field ft_assayerlaw01_heldInt32_2 rfl rfl rfl (g := g1) (o := 0) (s3) (o' := 2) rfl ?_
   refine S_load rfl rfl rfl (rfl) (LD.blk1 ti_int b1 (v := (.int .i64 n)) rfl) ?_
   refine S_call en_assayerlaw01_markInt32 rfl rfl rfl (vs := [(.int .i64 n)]) (rfl) (markInt32_c _ n hn) ?_
   rintro _ _ ⟨rfl, rfl⟩
   refine S_lit Tryz.underlying22 ti_uint32 rfl rfl (by decide) (by decide) rfl (vs := [(.int .u32 (1000 + n))]) (cs := [(.int .u32 (1000 + n))]) rfl rfl (by simp [Value.cells]) rfl ?_
   intro g3 w3 hg3 hs3 hB3 b3
   have hz3 := hB3.size
   have E := Below.step E hB3 hB0
   have HB := HB.below hB3
   have hl_b1 := b1.lt
   have b1 := b1.below hB3
   have hok2 := HB.okI (h := h1) (by simp)
   have he := hPG.2.1
   have hs := hPG.2.2.1
   have hle := hPG.le
   have hrow : Row B 106 1 w3 h1.o.v h1.o.m h1.o.xs := by
     have := hok2
     unfold OV.ok at this
     rw [he, hs] at this
     exact this
   refine S_appendR Tryz.underlying22 ti_uint32 rfl rfl rfl rfl rfl (rfl) (rfl) hrow (m := h1.o.m) (k := 1) (c := 1) (by decide) (news := [.int .u32 (1000 + n)]) rfl (fun u x hx => by rw [add_plain, b3.cell, Nat.zero_add]; exact hx) (by simp [Value.oneCell']) (by omega) (by omega) (by omega) ?_
   intro v2 w4 hr hg hb _
   have E := Below.grownE E hg (by have := HB.blk.lt; omega) (fun g hg => (hrow.bkB g hg).1)
   have hd : MC false O2 h1.no [.int .u32 (1000 + n)] := by rw [hn1]; exact rfl
   have hr2 : Row B h1.o.e h1.o.sz w4 v2 (h1.o.m + 1) (h1.o.xs ++ [.int .u32 (1000 + n)]) := by rw [he, hs]; exact hr
   have hl_b1 := b1.lt
   have hok3 : OV.ok B w4 (⟨v2, h1.o.e, h1.o.sz, h1.o.m + 1, h1.o.xs ++ [.int .u32 (1000 + n)]⟩ : OV) := hr2
   obtain ⟨O3, HB, hc⟩ := HB.growI hg hok3 hb
   have hPG := hPG.step hok2 hd hr2 hc
   have b1 := b1.grown hg (fun e => hne e.symm)
   have hne : bk v2 ≠ some g1 := by
     rcases hb with hb | ⟨g, hb, hs, _⟩
     · rw [hb]; exact hne
     · rw [hb]; intro e; cases e; omega
   have hO3 : ∀ o ∈ O', o ∈ O3 := by
     rcases hc with ⟨_, rfl⟩ | rfl
     · exact fun o ho => hO2 o ho
     · exact fun o ho => List.mem_cons_of_mem _ (hO2 o ho)
   refine S_assign rfl rfl rfl (v := v2) (rfl) ?_
   refine OPS.nil ?_
   change WP _ _ _ _ _ _
   refine W_region rfl ?_
   refine S_move rfl rfl rfl (v := (.int .i64 (j : Int))) (s5) ?_
   refine S_add64 rfl rfl rfl rfl (rfl) (rfl) (by omega) ?_
   refine S_assign rfl rfl rfl (v := (.int .i64 ((j : Int) + 1))) (rfl) ?_
   refine OPS.nil ?_
   exact ⟨q - 1, by omega, j + 1, _, O3, s0, s2, s3, rfl, int_eq (by omega), by omega, HB, hPG, hn1, hne, b1, hO3, E⟩
  ·skip
   have pF := hq25
   replace hq25 := of_decide_eq_false hq25
   have qF := hq25
   try rw [pF]
   refine W_exit ?_
   change WP _ _ _ _ _ _
   refine W_region rfl ?_
   refine S_move rfl rfl rfl (v := (.pointer (some ⟨kb, 0, none⟩))) (s0) ?_
   refine S_nil rfl rfl rfl (rfl) ?_
   refine S_field ft_assayerlaw01_Book_2 rfl rfl rfl (g := kb) (o := 0) (rfl) (o' := 2) rfl ?_
   refine S_load rfl rfl rfl (rfl) (LD.blk1 ti_Lassayerlaw01_heldInt32 HB.blk (v := vI) rfl) ?_
   refine S_move rfl rfl rfl (v := (.int .i64 (i : Int))) (s2) ?_
   refine S_move rfl rfl rfl (v := h1.o.v) (s4) ?_
   have hj40 : j = 40 := by omega
   have hPD : PG false O2 h1 40 := by rw [← hj40]; exact hPG
   obtain ⟨Al, cl, hvl⟩ := (HB.okI (h := h1) (by simp)).len
   obtain ⟨gI, cI, eI, hcI, hbI, hmI⟩ := HB.rowI.form (by simp; omega)
   have hrI := HB.rowI
   have hbI2 := hbI
   refine S_idx Tryz.underlying33 ti_assayerlaw01_heldInt32 rfl rfl rfl rfl (v := vI) (rfl) (rfl) (m := (X1 ++ h1 :: X3).length) (j := X1.length) (ad := ⟨gI, X1.length * 3, none⟩) ⟨⟨gI, 0, none⟩, cI, eI, by simp, by rw [add_plain]; simp⟩ (by omega) ?_
   refine S_field ft_assayerlaw01_heldInt32_1 rfl rfl rfl (g := gI) (o := X1.length * 3) (rfl) (o' := X1.length * 3 + 1) rfl ?_
   rw [eI] at hrI
   refine S_storeR ti_Luint32 rfl rfl rfl rfl hrI hcI (rfl) (v := .slice Al h1.o.m cl) hvl (vs := [.slice Al h1.o.m cl]) rfl rfl (by simp [Value.oneCell']) (by simp; omega) ?_
   intro w5 hU hr
   rw [← eI] at hr
   have HB := HB.longI (u := .slice Al h1.o.m cl) hU hbI hr
   have E := Below.stepU E hU (hrI.bkB gI (bk_some hcI)).1
   refine OPS.nil ?_
   change WP _ _ _ _ _ _
   refine W_region rfl ?_
   refine S_move rfl rfl rfl (v := (.int .i64 (i : Int))) (s2) ?_
   refine S_add64 rfl rfl rfl rfl (rfl) (rfl) (by omega) ?_
   refine S_assign rfl rfl rfl (v := (.int .i64 ((i : Int) + 1))) (rfl) ?_
   refine OPS.nil ?_
   refine ⟨k - 1, by omega, i + 1, X1 ++ [⟨h1.l, .slice Al h1.o.m cl, h1.no, h1.o⟩], X3, O2, s0, int_eq (by omega), by simp; omega, by simp at hX2; omega, by omega, by rw [List.append_assoc]; exact HB, fun p hp => ?_, fun p hp => (hP p (by simp [hp])).mono hO2, fun o ho => hO2 _ (hO o ho), E⟩
   rcases List.mem_append.1 hp with hp | hp
   · exact (hF p hp).mono hO2
   · rw [List.mem_singleton] at hp; subst hp; exact ⟨hPD, hvl.symm⟩
 ·skip
  have pF := hq12
  replace hq12 := of_decide_eq_false hq12
  have qF := hq12
  try rw [pF]
  refine W_exit ?_
  change Fin' _ _ _ _ _ _
  refine End0 rfl ?_
  exact ⟨E, X1 ++ X2, O', HB, by rw [hxl]; omega, fun p hp => (List.mem_append.1 hp).elim (hF p) (fun hp => by cases X2 with | nil => cases hp | cons x l => simp at hX2; omega), hO⟩

set_option maxHeartbeats 400000 in
theorem growRat_c (w0 : World) {B : Nat} (kb : Nat) (no : Int) (vI vR : Value) (I R : List HE) (O : List OV) (HB : BOOK B kb w0 no vI vR I R O) (hX : ∀ h ∈ R, PF true O h) (hB : B ≤ kb) :
    Ret Tryz.prog 120 [(.pointer (some ⟨kb, 0, none⟩))] w0 (fun r w1 => Below B w0 w1 ∧ ∃ R' O', BOOK B kb w1 no vI vR I R' O' ∧ R'.length = R.length ∧ (∀ h ∈ R', PD true O' h) ∧ (∀ o ∈ O, o ∈ O')) := by
 have E := Below.refl B w0
 have hB0 : B ≤ w0.heap.size := by have := HB.blk.lt; omega
 refine Ret_of (n := 42) Tryz.func120 rfl rfl (Nat.le_of_ble_eq_true rfl) ?_
 refine W_seq ?_
 refine W_region rfl ?_
 refine S_assign rfl rfl rfl (v := (.int .i64 0)) (rfl) ?_
 refine OPS.nil ?_
 change WP _ _ _ _ _ _
 refine W_block ?_
 refine W_loop (fun k σ w => ∃ (i : Nat) (X1 X2 : List HE) (O' : List OV), σ 0 = .pointer (some ⟨kb, 0, none⟩) ∧ σ 2 = .int .i64 (i : Int) ∧ X1.length = i ∧ X2.length = k ∧ i + k = R.length ∧ BOOK B kb w no vI vR I (X1 ++ X2) O' ∧ (∀ h ∈ X1, PD true O' h) ∧ (∀ h ∈ X2, PF true O' h) ∧ (∀ o ∈ O, o ∈ O') ∧ Below B w0 w) (R.length) ⟨0, [], R, O, rfl, rfl, rfl, rfl, by omega, HB, fun _ h => (by cases h), hX, fun _ h => h, E⟩ ?_
 rintro k σ w ⟨i, X1, X2, O', s0, s2, hX1, hX2, hik, HB, hF, hP, hO, E⟩
 have hxl : (X1 ++ X2).length = i + k := by simp; omega
 have hml := HB.rowH.rc.le
 refine W_seq ?_
 refine W_seq ?_
 refine W_region rfl ?_
 refine S_move rfl rfl rfl (v := (.int .i64 (i : Int))) (s2) ?_
 refine S_move rfl rfl rfl (v := (.pointer (some ⟨kb, 0, none⟩))) (s0) ?_
 refine S_nil rfl rfl rfl (rfl) ?_
 refine S_field ft_assayerlaw01_Book_8 rfl rfl rfl (g := kb) (o := 0) (rfl) (o' := 8) rfl ?_
 refine S_load rfl rfl rfl (rfl) (LD.blk1 ti_Lassayerlaw01_heldRat HB.blk (v := vR) rfl) ?_
 refine S_len Tryz.underlying39 rfl rfl rfl (rfl) (m := (X1 ++ X2).length) (HB.rowH.len) ?_
 refine S_bin rfl rfl rfl rfl rfl (rfl) (rfl) (v := .bool (decide ((i : Int) < ((X1 ++ X2).length : Int)))) rfl ?_
 refine OPS.nil ?_
 change WP _ _ _ _ _ _
 refine W_cond rfl (rfl) (fun hq12 => ?_) (fun hq12 => ?_)
 ·skip
  have pT := hq12
  replace hq12 := of_decide_eq_true hq12
  have qT := hq12
  obtain ⟨h0, X3, rfl⟩ : ∃ h Y, X2 = h :: Y := by
    cases X2 with
    | nil => simp at hX2; omega
    | cons h Y => exact ⟨h, Y, rfl⟩
  have hk1 := hP h0 (by simp)
  have hok := HB.okR (h := h0) (by simp)
  obtain ⟨A, m, c, n, xs, rfl, hn, hm⟩ := hk1.1.form hok
  have hlt := HB.lt
  have hkl := HB.blk.lt
  have hgA : ∀ g, bk (.slice A m c) = some g → g < w.heap.size := hlt _ (BOOK.memR (h := ⟨.slice A m c, .slice none 0 0, n, ⟨.slice A m c, kty true, ksz true, m, xs⟩⟩) (by simp))
  try rw [pT]
  refine W_skip ?_
  change WP _ _ _ _ _ _
  refine W_seq ?_
  refine W_block ?_
  refine W_seq ?_
  refine W_region rfl ?_
  refine S_move rfl rfl rfl (v := (.pointer (some ⟨kb, 0, none⟩))) (s0) ?_
  refine S_nil rfl rfl rfl (rfl) ?_
  refine S_field ft_assayerlaw01_Book_8 rfl rfl rfl (g := kb) (o := 0) (rfl) (o' := 8) rfl ?_
  refine S_load rfl rfl rfl (rfl) (LD.blk1 ti_Lassayerlaw01_heldRat HB.blk (v := vR) rfl) ?_
  refine S_move rfl rfl rfl (v := (.int .i64 (i : Int))) (s2) ?_
  obtain ⟨ad1, hp1, hc1⟩ := HB.atR
  refine S_idx Tryz.underlying39 ti_assayerlaw01_heldRat rfl rfl rfl rfl (rfl) (rfl) hp1 (by omega) ?_
  refine S_load rfl rfl rfl (rfl) (LD.cells ti_assayerlaw01_heldRat hc1 rfl) ?_
  refine S_alloc ti_assayerlaw01_heldRat rfl rfl (cs := [.slice none 0 0, .slice none 0 0, .int .i64 0]) rfl ?_
  intro g1 w1 hg1 hs1 hB1 b1
  have hz1 := hB1.size
  have E := Below.step E hB1 hB0
  have HB := HB.below hB1
  refine S_store ti_assayerlaw01_heldRat rfl rfl rfl rfl (g := g1) (o := 0) (rfl) (v := (.agg #[(.slice A m c), (.slice none 0 0), (.int .i64 n)])) (rfl) (vs := [(.slice A m c), (.slice none 0 0), (.int .i64 n)]) rfl rfl (by simp [Value.oneCell']) b1 (by simp) (cs' := [(.slice A m c), (.slice none 0 0), (.int .i64 n)]) rfl ?_
  intro w2 hU2 b1
  have E := Below.stepU E hU2 (by omega)
  have HB := HB.updHi hU2 hlt hkl (by omega)
  have hz2 := hU2.size
  refine OPS.nil ?_
  change WP _ _ _ _ _ _
  refine W_seq ?_
  refine W_region rfl ?_
  refine S_field ft_assayerlaw01_heldRat_0 rfl rfl rfl (g := g1) (o := 0) (rfl) (o' := 0) rfl ?_
  refine S_load rfl rfl rfl (rfl) (LD.blk1 ti_Lapi_Rat b1 (v := (.slice A m c)) rfl) ?_
  refine S_assign rfl rfl rfl (v := (.slice A m c)) (rfl) ?_
  refine OPS.nil ?_
  change WP _ _ _ _ _ _
  refine W_seq ?_
  refine W_seq ?_
  refine W_region rfl ?_
  refine S_assign rfl rfl rfl (v := (.int .i64 0)) (rfl) ?_
  refine OPS.nil ?_
  change WP _ _ _ _ _ _
  refine W_block ?_
  refine W_loop (fun q σ w => ∃ (j : Nat) (h1 : HE) (O2 : List OV), σ 0 = .pointer (some ⟨kb, 0, none⟩) ∧ σ 2 = .int .i64 (i : Int) ∧ σ 3 = .pointer (some ⟨g1, 0, none⟩) ∧ σ 4 = h1.o.v ∧ σ 5 = .int .i64 (j : Int) ∧ j + q = 40 ∧ BOOK B kb w no vI vR I (X1 ++ h1 :: X3) O2 ∧ PG true O2 h1 j ∧ h1.no = n ∧ bk h1.o.v ≠ some g1 ∧ Blk w g1 [(.slice A m c), (.slice none 0 0), (.int .i64 n)] 183 ∧ (∀ o ∈ O', o ∈ O2) ∧ Below B w0 w) (40) ⟨0, _, O', s0, s2, rfl, rfl, rfl, by omega, HB, PG.start hk1 hok, rfl, fun e => by have := hgA _ e; omega, b1, fun _ ho => ho, E⟩ ?_
  rintro q σ w ⟨j, h1, O2, s0, s2, s3, s4, s5, hjq, HB, hPG, hn1, hne, b1, hO2, E⟩
  refine W_seq ?_
  refine W_seq ?_
  refine W_region rfl ?_
  refine S_move rfl rfl rfl (v := (.int .i64 (j : Int))) (s5) ?_
  refine S_bin rfl rfl rfl rfl rfl (rfl) (rfl) (v := .bool (decide ((j : Int) < 40))) rfl ?_
  refine OPS.nil ?_
  change WP _ _ _ _ _ _
  refine W_cond rfl (rfl) (fun hq25 => ?_) (fun hq25 => ?_)
  ·skip
   have pT := hq25
   replace hq25 := of_decide_eq_true hq25
   have qT := hq25
   try rw [pT]
   refine W_skip ?_
   change WP _ _ _ _ _ _
   refine W_seq ?_
   refine W_block ?_
   refine W_region rfl ?_
   refine S_move rfl rfl rfl (v := h1.o.v) (s4) ?_
   refine S_field ft_assayerlaw01_heldRat_2 rfl rfl rfl (g := g1) (o := 0) (s3) (o' := 2) rfl ?_
   refine S_load rfl rfl rfl (rfl) (LD.blk1 ti_int b1 (v := (.int .i64 n)) rfl) ?_
   have HBold := HB
   refine S_call en_assayerlaw01_markRat rfl rfl rfl (vs := [(.int .i64 n)]) (rfl) (markRat_c _ n hn) ?_
   rintro _ w3 ⟨hB3, gm, rfl, hm2⟩
   have hz3 := hB3.size
   have E := Below.step E hB3 hB0
   have HB := HB.below hB3
   have hl_b1 := b1.lt
   have b1 := b1.below hB3
   have HBm := HBold.new (o := ovN (.slice (some ⟨gm, 0, none⟩) 1 1) [1000 + n]) (by assumption) (fun k hk => (hm2.bkB k hk).1) (hm2.mono (by have := HBold.blk.lt; omega)).ov
   refine S_lit Tryz.underlying49 ti_api_Rat rfl rfl (by decide) (by decide) rfl (vs := [(.agg #[.bool false, .slice none 0 0, .slice (some ⟨gm, 0, none⟩) 1 1])]) (cs := [(.bool false), (.slice none 0 0), (.slice (some ⟨gm, 0, none⟩) 1 1)]) rfl rfl (by simp [Value.cells]) rfl ?_
   intro g4 w4 hg4 hs4 hB4 b4
   have hz4 := hB4.size
   have E := Below.step E hB4 hB0
   have HB := HB.below hB4
   have hl_b1 := b1.lt
   have b1 := b1.below hB4
   have HB := HBm.below (by assumption)
   have hPG := hPG.mono (O' := (ovN (.slice (some ⟨gm, 0, none⟩) 1 1) [1000 + n] :: O2)) (fun o ho => List.mem_cons_of_mem _ ho)
   have hok2 := HB.okR (h := h1) (by simp)
   have he := hPG.2.1
   have hs := hPG.2.2.1
   have hle := hPG.le
   have hrow : Row B 70 3 w4 h1.o.v h1.o.m h1.o.xs := by
     have := hok2
     unfold OV.ok at this
     rw [he, hs] at this
     exact this
   refine S_appendR Tryz.underlying49 ti_api_Rat rfl rfl rfl rfl rfl (rfl) (rfl) hrow (m := h1.o.m) (k := 1) (c := 1) (by decide) (news := [.bool false, .slice none 0 0, .slice (some ⟨gm, 0, none⟩) 1 1]) rfl (fun u x hx => by rw [add_plain, b4.cell, Nat.zero_add]; exact hx) (by simp [Value.oneCell']) (by omega) (by omega) (by omega) ?_
   intro v2 w5 hr hg hb _
   have E := Below.grownE E hg (by have := HB.blk.lt; omega) (fun g hg => (hrow.bkB g hg).1)
   have hd : MC true (ovN (.slice (some ⟨gm, 0, none⟩) 1 1) [1000 + n] :: O2) h1.no [.bool false, .slice none 0 0, .slice (some ⟨gm, 0, none⟩) 1 1] := by rw [hn1]; exact ⟨_, rfl, by simp⟩
   have hr2 : Row B h1.o.e h1.o.sz w5 v2 (h1.o.m + 1) (h1.o.xs ++ [.bool false, .slice none 0 0, .slice (some ⟨gm, 0, none⟩) 1 1]) := by rw [he, hs]; exact hr
   have hl_b1 := b1.lt
   have hok3 : OV.ok B w5 (⟨v2, h1.o.e, h1.o.sz, h1.o.m + 1, h1.o.xs ++ [.bool false, .slice none 0 0, .slice (some ⟨gm, 0, none⟩) 1 1]⟩ : OV) := hr2
   obtain ⟨O3, HB, hc⟩ := HB.growR hg hok3 hb
   have hPG := hPG.step hok2 hd hr2 hc
   have b1 := b1.grown hg (fun e => hne e.symm)
   have hne : bk v2 ≠ some g1 := by
     rcases hb with hb | ⟨g, hb, hs, _⟩
     · rw [hb]; exact hne
     · rw [hb]; intro e; cases e; omega
   have hO3 : ∀ o ∈ O', o ∈ O3 := by
     rcases hc with ⟨_, rfl⟩ | rfl
     · exact fun o ho => List.mem_cons_of_mem _ (hO2 o ho)
     · exact fun o ho => List.mem_cons_of_mem _ (List.mem_cons_of_mem _ (hO2 o ho))
   refine S_assign rfl rfl rfl (v := v2) (rfl) ?_
   refine OPS.nil ?_
   change WP _ _ _ _ _ _
   refine W_region rfl ?_
   refine S_move rfl rfl rfl (v := (.int .i64 (j : Int))) (s5) ?_
   refine S_add64 rfl rfl rfl rfl (rfl) (rfl) (by omega) ?_
   refine S_assign rfl rfl rfl (v := (.int .i64 ((j : Int) + 1))) (rfl) ?_
   refine OPS.nil ?_
   exact ⟨q - 1, by omega, j + 1, _, O3, s0, s2, s3, rfl, int_eq (by omega), by omega, HB, hPG, hn1, hne, b1, hO3, E⟩
  ·skip
   have pF := hq25
   replace hq25 := of_decide_eq_false hq25
   have qF := hq25
   try rw [pF]
   refine W_exit ?_
   change WP _ _ _ _ _ _
   refine W_region rfl ?_
   refine S_move rfl rfl rfl (v := (.pointer (some ⟨kb, 0, none⟩))) (s0) ?_
   refine S_nil rfl rfl rfl (rfl) ?_
   refine S_field ft_assayerlaw01_Book_8 rfl rfl rfl (g := kb) (o := 0) (rfl) (o' := 8) rfl ?_
   refine S_load rfl rfl rfl (rfl) (LD.blk1 ti_Lassayerlaw01_heldRat HB.blk (v := vR) rfl) ?_
   refine S_move rfl rfl rfl (v := (.int .i64 (i : Int))) (s2) ?_
   refine S_move rfl rfl rfl (v := h1.o.v) (s4) ?_
   have hj40 : j = 40 := by omega
   have hPD : PG true O2 h1 40 := by rw [← hj40]; exact hPG
   obtain ⟨Al, cl, hvl⟩ := (HB.okR (h := h1) (by simp)).len
   obtain ⟨gI, cI, eI, hcI, hbI, hmI⟩ := HB.rowH.form (by simp; omega)
   have hrI := HB.rowH
   have hbI2 := hbI
   refine S_idx Tryz.underlying39 ti_assayerlaw01_heldRat rfl rfl rfl rfl (v := vR) (rfl) (rfl) (m := (X1 ++ h1 :: X3).length) (j := X1.length) (ad := ⟨gI, X1.length * 3, none⟩) ⟨⟨gI, 0, none⟩, cI, eI, by simp, by rw [add_plain]; simp⟩ (by omega) ?_
   refine S_field ft_assayerlaw01_heldRat_1 rfl rfl rfl (g := gI) (o := X1.length * 3) (rfl) (o' := X1.length * 3 + 1) rfl ?_
   rw [eI] at hrI
   refine S_storeR ti_Lapi_Rat rfl rfl rfl rfl hrI hcI (rfl) (v := .slice Al h1.o.m cl) hvl (vs := [.slice Al h1.o.m cl]) rfl rfl (by simp [Value.oneCell']) (by simp; omega) ?_
   intro w6 hU hr
   rw [← eI] at hr
   have HB := HB.longR (u := .slice Al h1.o.m cl) hU hbI hr
   have E := Below.stepU E hU (hrI.bkB gI (bk_some hcI)).1
   refine OPS.nil ?_
   change WP _ _ _ _ _ _
   refine W_region rfl ?_
   refine S_move rfl rfl rfl (v := (.int .i64 (i : Int))) (s2) ?_
   refine S_add64 rfl rfl rfl rfl (rfl) (rfl) (by omega) ?_
   refine S_assign rfl rfl rfl (v := (.int .i64 ((i : Int) + 1))) (rfl) ?_
   refine OPS.nil ?_
   refine ⟨k - 1, by omega, i + 1, X1 ++ [⟨h1.l, .slice Al h1.o.m cl, h1.no, h1.o⟩], X3, O2, s0, int_eq (by omega), by simp; omega, by simp at hX2; omega, by omega, by rw [List.append_assoc]; exact HB, fun p hp => ?_, fun p hp => (hP p (by simp [hp])).mono hO2, fun o ho => hO2 _ (hO o ho), E⟩
   rcases List.mem_append.1 hp with hp | hp
   · exact (hF p hp).mono hO2
   · rw [List.mem_singleton] at hp; subst hp; exact ⟨hPD, hvl.symm⟩
 ·skip
  have pF := hq12
  replace hq12 := of_decide_eq_false hq12
  have qF := hq12
  try rw [pF]
  refine W_exit ?_
  change Fin' _ _ _ _ _ _
  refine End0 rfl ?_
  exact ⟨E, X1 ++ X2, O', HB, by rw [hxl]; omega, fun p hp => (List.mem_append.1 hp).elim (hF p) (fun hp => by cases X2 with | nil => cases hp | cons x l => simp at hX2; omega), hO⟩

end Go.Proofs.YtccmicegihlfbaaGreatDoor

/- The rounds of a book: all lists are looked at. -/
namespace Go.Proofs.YtccmicegihlfbaaGreatDoor
open Go.RowKit

set_option maxHeartbeats 400000 in
theorem isInt32_c (w0 : World) (n : Int) (hn : 0 ≤ n ∧ n ≤ 1000000) :
    Ret Tryz.prog 221 [.int .u32 (1000 + n), .int .i64 n] w0 (fun r w1 => r = .bool true ∧ w0 = w1) := by
 refine Ret_of (n := 10) Tryz.func221 rfl rfl (Nat.le_of_ble_eq_true rfl) ?_
 refine W_seq ?_
 refine W_region rfl ?_
 refine S_assign rfl rfl rfl (v := (.bool false)) (rfl) ?_
 refine OPS.nil ?_
 change WP _ _ _ _ _ _
 refine W_seq ?_
 refine W_region rfl ?_
 refine S_move rfl rfl rfl (v := .int .u32 (1000 + n)) (rfl) ?_
 refine S_move rfl rfl rfl (v := .int .i64 n) (rfl) ?_
 refine S_add64 rfl rfl rfl rfl (rfl) (rfl) (by omega) ?_
 refine S_conv Tryz.underlying3 Tryz.underlying106 rfl rfl rfl (rfl) (b := (1000 + n)) (wrap_u32 (by omega) (by omega)) ?_
 refine S_bin rfl rfl rfl rfl rfl (rfl) (rfl) (v := .bool true) (by simp [binV]) ?_
 refine S_assign rfl rfl rfl (v := (.bool true)) (rfl) ?_
 refine OPS.nil ?_
 change WP _ _ _ _ _ _
 refine W_ret ?_
 change Fin' _ _ _ _ _ _
 refine End1 (n := ⟨10, []⟩) (t := 4) rfl (by decide) (v := (.bool true)) (rfl) ?_
 exact ⟨rfl, rfl⟩

set_option maxHeartbeats 400000 in
theorem isRat_c (w0 : World) (n : Int) (Aa : Option Addr) (ca : Nat) {a b : Nat} (hR : RN a b w0 (.slice Aa 1 ca) [1000 + n]) (hn : 0 ≤ n ∧ n ≤ 1000000) :
    Ret Tryz.prog 227 [(.agg #[.bool false, .slice none 0 0, (.slice Aa 1 ca)]), .int .i64 n] w0 (fun r w1 => Below w0.heap.size w0 w1 ∧ r = .bool true) := by
 have E := Below.refl w0.heap.size w0
 refine Ret_of (n := 19) Tryz.func227 rfl rfl (Nat.le_of_ble_eq_true rfl) ?_
 refine W_seq ?_
 refine W_region rfl ?_
 refine S_box rfl rfl rfl (v := (.agg #[.bool false, .slice none 0 0, (.slice Aa 1 ca)])) (rfl) (cs := [(.bool false), (.slice none 0 0), (.slice Aa 1 ca)]) rfl ?_
 intro g1 w1 hg1 hs1 hB1 b1
 have hz1 := hB1.size
 have E := Below.step E hB1
 have hR := hR.below hB1
 refine S_assign rfl rfl rfl (v := (.bool false)) (rfl) ?_
 refine OPS.nil ?_
 change WP _ _ _ _ _ _
 refine W_seq ?_
 refine W_region rfl ?_
 refine S_field ft_api_Rat_1 rfl rfl rfl (g := g1) (o := 0) (rfl) (o' := 2) rfl ?_
 refine S_load rfl rfl rfl (rfl) (LD.blk1 ti_api_Nat b1 (v := (.slice Aa 1 ca)) rfl) ?_
 refine S_len Tryz.underlying23 rfl rfl rfl (rfl) (m := 1) (⟨_, _, rfl⟩) ?_
 refine S_bin rfl rfl rfl rfl rfl (rfl) (rfl) (v := .bool true) (by simp [binV]) ?_
 refine S_move rfl rfl rfl (v := (.bool true)) (rfl) ?_
 refine S_field ft_api_Rat_1 rfl rfl rfl (g := g1) (o := 0) (rfl) (o' := 2) rfl ?_
 refine S_load rfl rfl rfl (rfl) (LD.blk1 ti_api_Nat b1 (v := (.slice Aa 1 ca)) rfl) ?_
 obtain ⟨ad1, hp3, hc2⟩ := hR.at 0 (by simp)
 refine S_idx Tryz.underlying23 ti_uint32 rfl rfl rfl rfl (rfl) (rfl) hp3 (by omega) ?_
 refine S_load rfl rfl rfl (rfl) (LD.one ti_uint32 hc2) ?_
 refine S_move rfl rfl rfl (v := .int .i64 n) (rfl) ?_
 refine S_add64 rfl rfl rfl rfl (rfl) (rfl) (by omega) ?_
 refine S_conv Tryz.underlying3 Tryz.underlying106 rfl rfl rfl (rfl) (b := (1000 + n)) (wrap_u32 (by omega) (by omega)) ?_
 refine S_bin rfl rfl rfl rfl rfl (rfl) (rfl) (v := .bool true) (by simp [binV]) ?_
 refine S_pick rfl rfl rfl rfl rfl (b := true) (rfl) (v := (.bool true)) (rfl) ?_
 refine S_assign rfl rfl rfl (v := (.bool true)) (rfl) ?_
 refine OPS.nil ?_
 change WP _ _ _ _ _ _
 refine W_ret ?_
 change Fin' _ _ _ _ _ _
 refine End1 (n := ⟨19, []⟩) (t := 4) rfl (by decide) (v := (.bool true)) (rfl) ?_
 exact ⟨E, rfl⟩

set_option maxHeartbeats 400000 in
theorem lookInt32_c (w0 : World) {B : Nat} (kb : Nat) (no : Int) (vI vR : Value) (I R : List HE) (O : List OV) (HB : BOOK B kb w0 no vI vR I R O) (hX : ∀ h ∈ I, PD false O h) (hB : B ≤ kb) :
    Ret Tryz.prog 126 [(.pointer (some ⟨kb, 0, none⟩))] w0 (fun r w1 => Below B w0 w1 ∧ r = .bool true ∧ BOOK B kb w1 no vI vR I R O) := by
 have E := Below.refl B w0
 have hB0 : B ≤ w0.heap.size := by have := HB.blk.lt; omega
 refine Ret_of (n := 64) Tryz.func126 rfl rfl (Nat.le_of_ble_eq_true rfl) ?_
 refine W_seq ?_
 refine W_region rfl ?_
 refine S_assign rfl rfl rfl (v := (.bool false)) (rfl) ?_
 refine OPS.nil ?_
 change WP _ _ _ _ _ _
 refine W_seq ?_
 refine W_seq ?_
 refine W_region rfl ?_
 refine S_assign rfl rfl rfl (v := (.int .i64 0)) (rfl) ?_
 refine OPS.nil ?_
 change WP _ _ _ _ _ _
 refine W_block ?_
 refine W_loop (fun k σ w => ∃ (i : Nat), σ 0 = .pointer (some ⟨kb, 0, none⟩) ∧ σ 3 = .int .i64 (i : Int) ∧ i + k = I.length ∧ BOOK B kb w no vI vR I R O ∧ Below B w0 w) (I.length) ⟨0, rfl, rfl, by omega, HB, E⟩ ?_
 rintro k σ w ⟨i, s0, s3, hik, HB, E⟩
 have hml := HB.rowI.rc.le
 refine W_seq ?_
 refine W_seq ?_
 refine W_region rfl ?_
 refine S_move rfl rfl rfl (v := (.int .i64 (i : Int))) (s3) ?_
 refine S_move rfl rfl rfl (v := (.pointer (some ⟨kb, 0, none⟩))) (s0) ?_
 refine S_nil rfl rfl rfl (rfl) ?_
 refine S_field ft_assayerlaw01_Book_2 rfl rfl rfl (g := kb) (o := 0) (rfl) (o' := 2) rfl ?_
 refine S_load rfl rfl rfl (rfl) (LD.blk1 ti_Lassayerlaw01_heldInt32 HB.blk (v := vI) rfl) ?_
 refine S_len Tryz.underlying33 rfl rfl rfl (rfl) (m := I.length) (HB.rowI.len) ?_
 refine S_bin rfl rfl rfl rfl rfl (rfl) (rfl) (v := .bool (decide ((i : Int) < (I.length : Int)))) rfl ?_
 refine OPS.nil ?_
 change WP _ _ _ _ _ _
 refine W_cond rfl (rfl) (fun hq12 => ?_) (fun hq12 => ?_)
 ·skip
  have pT := hq12
  replace hq12 := of_decide_eq_true hq12
  have qT := hq12
  try rw [pT]
  refine W_skip ?_
  change WP _ _ _ _ _ _
  refine W_seq ?_
  refine W_block ?_
  refine W_seq ?_
  refine W_region rfl ?_
  refine S_move rfl rfl rfl (v := (.pointer (some ⟨kb, 0, none⟩))) (s0) ?_
  refine S_nil rfl rfl rfl (rfl) ?_
  refine S_field ft_assayerlaw01_Book_2 rfl rfl rfl (g := kb) (o := 0) (rfl) (o' := 2) rfl ?_
  refine S_load rfl rfl rfl (rfl) (LD.blk1 ti_Lassayerlaw01_heldInt32 HB.blk (v := vI) rfl) ?_
  refine S_move rfl rfl rfl (v := (.int .i64 (i : Int))) (s3) ?_
  obtain ⟨X1, h0, X3, hI, hX1⟩ := list_split (l := I) (i := i) (by omega)
  have hD := hX h0 (by rw [hI]; simp)
  have hm0 : h0 ∈ I := by rw [hI]; simp
  have HB1 := HB
  rw [hI] at HB1
  obtain ⟨A, m, c, Al, cl, n, o, rfl, hn, hm⟩ := hD.form (HB.okI hm0)
  obtain ⟨ad1, hp1, hc1⟩ := HB1.atI
  have hml2 : (X1 ++ (⟨.slice A m c, .slice Al (m + 40) cl, n, o⟩ : HE) :: X3).length = I.length := by rw [hI]
  refine S_idx Tryz.underlying33 ti_assayerlaw01_heldInt32 rfl rfl rfl rfl (rfl) (rfl) hp1 (by omega) ?_
  refine S_load rfl rfl rfl (rfl) (LD.cells ti_assayerlaw01_heldInt32 hc1 rfl) ?_
  have hlt := HB.lt
  have hkl := HB.blk.lt
  refine S_alloc ti_assayerlaw01_heldInt32 rfl rfl (cs := [.slice none 0 0, .slice none 0 0, .int .i64 0]) rfl ?_
  intro g1 w1 hg1 hs1 hB1 b1
  have hz1 := hB1.size
  have E := Below.step E hB1 hB0
  have HB := HB.below hB1
  refine S_store ti_assayerlaw01_heldInt32 rfl rfl rfl rfl (g := g1) (o := 0) (rfl) (v := (.agg #[(.slice A m c), (.slice Al (m + 40) cl), (.int .i64 n)])) (rfl) (vs := [(.slice A m c), (.slice Al (m + 40) cl), (.int .i64 n)]) rfl rfl (by simp [Value.oneCell']) b1 (by simp) (cs' := [(.slice A m c), (.slice Al (m + 40) cl), (.int .i64 n)]) rfl ?_
  intro w2 hU2 b1
  have E := Below.stepU E hU2 (by omega)
  have HB := HB.updHi hU2 hlt hkl (by omega)
  have hz2 := hU2.size
  refine OPS.nil ?_
  change WP _ _ _ _ _ _
  refine W_seq ?_
  refine W_seq ?_
  refine W_region rfl ?_
  refine S_field ft_assayerlaw01_heldInt32_1 rfl rfl rfl (g := g1) (o := 0) (rfl) (o' := 1) rfl ?_
  refine S_load rfl rfl rfl (rfl) (LD.blk1 ti_Luint32 b1 (v := (.slice Al (m + 40) cl)) rfl) ?_
  refine S_len Tryz.underlying22 rfl rfl rfl (rfl) (m := (m + 40)) (⟨_, _, rfl⟩) ?_
  refine S_field ft_assayerlaw01_heldInt32_0 rfl rfl rfl (g := g1) (o := 0) (rfl) (o' := 0) rfl ?_
  refine S_load rfl rfl rfl (rfl) (LD.blk1 ti_Luint32 b1 (v := (.slice A m c)) rfl) ?_
  refine S_len Tryz.underlying22 rfl rfl rfl (rfl) (m := m) (⟨_, _, rfl⟩) ?_
  refine S_add64 rfl rfl rfl rfl (rfl) (rfl) (by omega) ?_
  refine S_bin rfl rfl rfl rfl rfl (rfl) (rfl) (v := .bool false) (by simp [binV]) ?_
  refine OPS.nil ?_
  change WP _ _ _ _ _ _
  refine W_cond rfl (b := false) (rfl) (fun h => (by cases h)) (fun _ => ?_)
  refine W_skip ?_
  change WP _ _ _ _ _ _
  refine W_seq ?_
  refine W_region rfl ?_
  refine S_assign rfl rfl rfl (v := (.int .i64 0)) (rfl) ?_
  refine OPS.nil ?_
  change WP _ _ _ _ _ _
  refine W_block ?_
  refine W_loop (fun q σ w => ∃ (j : Nat), σ 0 = .pointer (some ⟨kb, 0, none⟩) ∧ σ 3 = .int .i64 (i : Int) ∧ σ 4 = .pointer (some ⟨g1, 0, none⟩) ∧ σ 5 = .int .i64 (j : Int) ∧ j + q = m + 40 ∧ BOOK B kb w no vI vR I R O ∧ Blk w g1 [(.slice A m c), (.slice Al (m + 40) cl), (.int .i64 n)] 158 ∧ Below B w0 w) (m + 40) ⟨0, s0, s3, rfl, rfl, by omega, HB, b1, E⟩ ?_
  rintro q σ w ⟨j, s0, s3, s4, s5, hjq, HB, b1, E⟩
  refine W_seq ?_
  refine W_seq ?_
  refine W_region rfl ?_
  refine S_move rfl rfl rfl (v := (.int .i64 (j : Int))) (s5) ?_
  refine S_field ft_assayerlaw01_heldInt32_1 rfl rfl rfl (g := g1) (o := 0) (s4) (o' := 1) rfl ?_
  refine S_load rfl rfl rfl (rfl) (LD.blk1 ti_Luint32 b1 (v := (.slice Al (m + 40) cl)) rfl) ?_
  refine S_len Tryz.underlying22 rfl rfl rfl (rfl) (m := (m + 40)) (⟨_, _, rfl⟩) ?_
  refine S_bin rfl rfl rfl rfl rfl (rfl) (rfl) (v := .bool (decide ((j : Int) < ((m + 40) : Int)))) rfl ?_
  refine OPS.nil ?_
  change WP _ _ _ _ _ _
  refine W_cond rfl (rfl) (fun hq34 => ?_) (fun hq34 => ?_)
  ·skip
   have pT := hq34
   replace hq34 := of_decide_eq_true hq34
   have qT := hq34
   try rw [pT]
   refine W_skip ?_
   change WP _ _ _ _ _ _
   refine W_seq ?_
   refine W_block ?_
   refine W_seq ?_
   rcases Nat.lt_or_ge j m with hjm | hjm
   ·skip
    refine D_begin_ mixed_ rfl rfl ?_
    intro w3 hB3 hz_3
    have hz3 := hB3.size
    have E := Below.step E hB3 hB0
    have HB := HB.below hB3
    have hl_b1 := b1.lt
    have b1 := b1.below hB3
    have hS_ : Below w3.heap.size w3 w3 := Below.refl _ _
    have E_S := E
    have HB_S := HB
    have b1_S := b1
    obtain ⟨e1, de1, hpe1, hde1, hce1⟩ := PD.long_at' hD (HB.okI hm0) (j := j) (by omega)
    obtain rfl : de1 = [.int .u32 (1000 + n)] := hde1
    replace hce1 := hce1.one
    obtain ⟨e2, de2, hpe2, hde2, hce2⟩ := PD.l_at hD (HB.okI hm0) (fun o ho => HB.okO ho) rfl j hjm
    obtain rfl : de2 = [.int .u32 (1000 + n)] := hde2
    replace hce2 := hce2.one
    refine D_field ft_assayerlaw01_heldInt32_1 (i := 0) (listed2 := (bm 27 1)) (by kernel_rfl) rfl rfl rfl (g := g1) (o := 0) (s4) (o' := 1) rfl hS_ ?_
    refine D_load (i := 1) (listed2 := (bm 27 3)) (by kernel_rfl) rfl rfl rfl (rfl) (fun _ hS2 => LD.blk1 ti_Luint32 (b1_S.below hS2) (v := (.slice Al (m + 40) cl)) rfl) hS_ ?_
    refine D_move (i := 2) (listed2 := (bm 27 7)) (by kernel_rfl) rfl rfl rfl (v := (.int .i64 (j : Int))) (s5) hS_ ?_
    refine D_idx Tryz.underlying22 ti_uint32 (i := 3) (listed2 := (bm 27 15)) (by kernel_rfl) rfl rfl rfl rfl (rfl) (rfl) hpe1 (by omega) hS_ ?_
    refine D_load (i := 4) (listed2 := (bm 27 31)) (by kernel_rfl) rfl rfl rfl (rfl) (fun _ hS2 => LD.one ti_uint32 (cell_below hS2 hce1)) hS_ ?_
    refine D_field ft_assayerlaw01_heldInt32_2 (i := 5) (listed2 := (bm 27 63)) (by kernel_rfl) rfl rfl rfl (g := g1) (o := 0) (s4) (o' := 2) rfl hS_ ?_
    refine D_load (i := 6) (listed2 := (bm 27 127)) (by kernel_rfl) rfl rfl rfl (rfl) (fun _ hS2 => LD.blk1 ti_int (b1_S.below hS2) (v := (.int .i64 n)) rfl) hS_ ?_
    refine D_only (i := 7) (by kernel_rfl) (listed2 := (bm 27 255)) (by kernel_rfl) ?_
    refine S_call en_assayerlaw01_isInt32 rfl rfl rfl (vs := [(.int .u32 (1000 + n)), (.int .i64 n)]) (rfl) (isInt32_c _ n hn) ?_
    rintro _ _ ⟨rfl, rfl⟩
    refine OPS.nil ⟨hS_, ?_⟩
    refine D_not (i := 8) (listed2 := (bm 27 511)) (by kernel_rfl) rfl rfl rfl (rfl) hS_ ?_
    change DRW _ _ _ _ _ _ _ (upd _ _ (.bool false)) _
    refine D_move (i := 9) (listed2 := (bm 27 1023)) (by kernel_rfl) rfl rfl rfl (v := (.bool false)) (rfl) hS_ ?_
    refine D_move (i := 10) (listed2 := (bm 27 2047)) (by kernel_rfl) rfl rfl rfl (v := (.int .i64 (j : Int))) (s5) hS_ ?_
    refine D_field ft_assayerlaw01_heldInt32_0 (i := 11) (listed2 := (bm 27 4095)) (by kernel_rfl) rfl rfl rfl (g := g1) (o := 0) (s4) (o' := 0) rfl hS_ ?_
    refine D_load (i := 12) (listed2 := (bm 27 8191)) (by kernel_rfl) rfl rfl rfl (rfl) (fun _ hS2 => LD.blk1 ti_Luint32 (b1_S.below hS2) (v := (.slice A m c)) rfl) hS_ ?_
    refine D_len Tryz.underlying22 (i := 13) (listed2 := (bm 27 16383)) (by kernel_rfl) rfl rfl rfl (rfl) (m := m) (⟨_, _, rfl⟩) hS_ ?_
    refine D_bin (i := 14) (listed2 := (bm 27 32767)) (by kernel_rfl) rfl rfl rfl rfl rfl (rfl) (rfl) (v := .bool true) (by simp [binV]; omega) hS_ ?_
    refine D_move (i := 15) (listed2 := (bm 27 65535)) (by kernel_rfl) rfl rfl rfl (v := (.bool true)) (rfl) hS_ ?_
    refine D_field ft_assayerlaw01_heldInt32_0 (i := 16) (listed2 := (bm 27 131071)) (by kernel_rfl) rfl rfl rfl (g := g1) (o := 0) (s4) (o' := 0) rfl hS_ ?_
    refine D_load (i := 17) (listed2 := (bm 27 262143)) (by kernel_rfl) rfl rfl rfl (rfl) (fun _ hS2 => LD.blk1 ti_Luint32 (b1_S.below hS2) (v := (.slice A m c)) rfl) hS_ ?_
    refine D_move (i := 18) (listed2 := (bm 27 524287)) (by kernel_rfl) rfl rfl rfl (v := (.int .i64 (j : Int))) (s5) hS_ ?_
    refine D_idx Tryz.underlying22 ti_uint32 (i := 19) (listed2 := (bm 27 1048575)) (by kernel_rfl) rfl rfl rfl rfl (rfl) (rfl) hpe2 (by omega) hS_ ?_
    refine D_load (i := 20) (listed2 := (bm 27 2097151)) (by kernel_rfl) rfl rfl rfl (rfl) (fun _ hS2 => LD.one ti_uint32 (cell_below hS2 hce2)) hS_ ?_
    refine D_field ft_assayerlaw01_heldInt32_2 (i := 21) (listed2 := (bm 27 4194303)) (by kernel_rfl) rfl rfl rfl (g := g1) (o := 0) (s4) (o' := 2) rfl hS_ ?_
    refine D_load (i := 22) (listed2 := (bm 27 8388607)) (by kernel_rfl) rfl rfl rfl (rfl) (fun _ hS2 => LD.blk1 ti_int (b1_S.below hS2) (v := (.int .i64 n)) rfl) hS_ ?_
    refine D_only (i := 23) (by kernel_rfl) (listed2 := (bm 27 16777215)) (by kernel_rfl) ?_
    refine S_call en_assayerlaw01_isInt32 rfl rfl rfl (vs := [(.int .u32 (1000 + n)), (.int .i64 n)]) (rfl) (isInt32_c _ n hn) ?_
    rintro _ _ ⟨rfl, rfl⟩
    refine OPS.nil ⟨hS_, ?_⟩
    refine D_not (i := 24) (listed2 := (bm 27 33554431)) (by kernel_rfl) rfl rfl rfl (rfl) hS_ ?_
    change DRW _ _ _ _ _ _ _ (upd _ _ (.bool false)) _
    refine D_pick (i := 25) (listed2 := (bm 27 67108863)) (by kernel_rfl) rfl rfl rfl rfl rfl (b := true) (rfl) (v := (.bool false)) (rfl) hS_ ?_
    refine D_pick (i := 26) (listed2 := (bm 27 134217727)) (by kernel_rfl) rfl rfl rfl rfl rfl (b := false) (rfl) (v := (.bool false)) (rfl) hS_ ?_
    refine D_done (by kernel_rfl) ?_
    change WP _ _ _ _ _ _
    refine W_cond rfl (b := false) (rfl) (fun h => (by cases h)) (fun _ => ?_)
    refine W_skip ?_
    change WP _ _ _ _ _ _
    refine W_region rfl ?_
    refine S_move rfl rfl rfl (v := (.int .i64 (j : Int))) (s5) ?_
    refine S_add64 rfl rfl rfl rfl (rfl) (rfl) (by omega) ?_
    refine S_assign rfl rfl rfl (v := (.int .i64 ((j : Int) + 1))) (rfl) ?_
    refine OPS.nil ?_
    exact ⟨q - 1, by omega, j + 1, s0, s3, s4, int_eq (by omega), by omega, HB, b1, E⟩
   ·skip
    refine D_begin_ mixed_ rfl rfl ?_
    intro w4 hB4 hz_4
    have hz4 := hB4.size
    have E := Below.step E hB4 hB0
    have HB := HB.below hB4
    have hl_b1 := b1.lt
    have b1 := b1.below hB4
    have hS_ : Below w4.heap.size w4 w4 := Below.refl _ _
    have E_S := E
    have HB_S := HB
    have b1_S := b1
    obtain ⟨e1, de1, hpe1, hde1, hce1⟩ := PD.long_at' hD (HB.okI hm0) (j := j) (by omega)
    obtain rfl : de1 = [.int .u32 (1000 + n)] := hde1
    replace hce1 := hce1.one
    refine D_field ft_assayerlaw01_heldInt32_1 (i := 0) (listed2 := (bm 27 1)) (by kernel_rfl) rfl rfl rfl (g := g1) (o := 0) (s4) (o' := 1) rfl hS_ ?_
    refine D_load (i := 1) (listed2 := (bm 27 3)) (by kernel_rfl) rfl rfl rfl (rfl) (fun _ hS2 => LD.blk1 ti_Luint32 (b1_S.below hS2) (v := (.slice Al (m + 40) cl)) rfl) hS_ ?_
    refine D_move (i := 2) (listed2 := (bm 27 7)) (by kernel_rfl) rfl rfl rfl (v := (.int .i64 (j : Int))) (s5) hS_ ?_
    refine D_idx Tryz.underlying22 ti_uint32 (i := 3) (listed2 := (bm 27 15)) (by kernel_rfl) rfl rfl rfl rfl (rfl) (rfl) hpe1 (by omega) hS_ ?_
    refine D_load (i := 4) (listed2 := (bm 27 31)) (by kernel_rfl) rfl rfl rfl (rfl) (fun _ hS2 => LD.one ti_uint32 (cell_below hS2 hce1)) hS_ ?_
    refine D_field ft_assayerlaw01_heldInt32_2 (i := 5) (listed2 := (bm 27 63)) (by kernel_rfl) rfl rfl rfl (g := g1) (o := 0) (s4) (o' := 2) rfl hS_ ?_
    refine D_load (i := 6) (listed2 := (bm 27 127)) (by kernel_rfl) rfl rfl rfl (rfl) (fun _ hS2 => LD.blk1 ti_int (b1_S.below hS2) (v := (.int .i64 n)) rfl) hS_ ?_
    refine D_only (i := 7) (by kernel_rfl) (listed2 := (bm 27 255)) (by kernel_rfl) ?_
    refine S_call en_assayerlaw01_isInt32 rfl rfl rfl (vs := [(.int .u32 (1000 + n)), (.int .i64 n)]) (rfl) (isInt32_c _ n hn) ?_
    rintro _ _ ⟨rfl, rfl⟩
    refine OPS.nil ⟨hS_, ?_⟩
    refine D_not (i := 8) (listed2 := (bm 27 511)) (by kernel_rfl) rfl rfl rfl (rfl) hS_ ?_
    change DRW _ _ _ _ _ _ _ (upd _ _ (.bool false)) _
    refine D_move (i := 9) (listed2 := (bm 27 1023)) (by kernel_rfl) rfl rfl rfl (v := (.bool false)) (rfl) hS_ ?_
    refine D_move (i := 10) (listed2 := (bm 27 2047)) (by kernel_rfl) rfl rfl rfl (v := (.int .i64 (j : Int))) (s5) hS_ ?_
    refine D_field ft_assayerlaw01_heldInt32_0 (i := 11) (listed2 := (bm 27 4095)) (by kernel_rfl) rfl rfl rfl (g := g1) (o := 0) (s4) (o' := 0) rfl hS_ ?_
    refine D_load (i := 12) (listed2 := (bm 27 8191)) (by kernel_rfl) rfl rfl rfl (rfl) (fun _ hS2 => LD.blk1 ti_Luint32 (b1_S.below hS2) (v := (.slice A m c)) rfl) hS_ ?_
    refine D_len Tryz.underlying22 (i := 13) (listed2 := (bm 27 16383)) (by kernel_rfl) rfl rfl rfl (rfl) (m := m) (⟨_, _, rfl⟩) hS_ ?_
    refine D_bin (i := 14) (listed2 := (bm 27 32767)) (by kernel_rfl) rfl rfl rfl rfl rfl (rfl) (rfl) (v := .bool false) (by simp [binV]; omega) hS_ ?_
    refine D_move (i := 15) (listed2 := (bm 27 65535)) (by kernel_rfl) rfl rfl rfl (v := (.bool false)) (rfl) hS_ ?_
    refine D_skip (d := 53) (op := .fieldAddr _ _ _) (gd := some (15, true)) (i := 16) (listed2 := (bm 27 131071)) (by kernel_rfl) rfl (wg_off rfl (rfl) rfl) hS_ ?_
    refine D_skip (d := 54) (op := .load _ _) (gd := some (15, true)) (i := 17) (listed2 := (bm 27 262143)) (by kernel_rfl) rfl (wg_off rfl (rfl) rfl) hS_ ?_
    refine D_skip (d := 55) (op := .move _) (gd := some (15, true)) (i := 18) (listed2 := (bm 27 524287)) (by kernel_rfl) rfl (wg_off rfl (rfl) rfl) hS_ ?_
    refine D_skip (d := 56) (op := .indexAddr _ _ _) (gd := some (15, true)) (i := 19) (listed2 := (bm 27 1048575)) (by kernel_rfl) rfl (wg_off rfl (rfl) rfl) hS_ ?_
    refine D_skip (d := 57) (op := .load _ _) (gd := some (15, true)) (i := 20) (listed2 := (bm 27 2097151)) (by kernel_rfl) rfl (wg_off rfl (rfl) rfl) hS_ ?_
    refine D_skip (d := 58) (op := .fieldAddr _ _ _) (gd := some (15, true)) (i := 21) (listed2 := (bm 27 4194303)) (by kernel_rfl) rfl (wg_off rfl (rfl) rfl) hS_ ?_
    refine D_skip (d := 59) (op := .load _ _) (gd := some (15, true)) (i := 22) (listed2 := (bm 27 8388607)) (by kernel_rfl) rfl (wg_off rfl (rfl) rfl) hS_ ?_
    refine D_skip (d := 60) (op := .call _) (gd := some (15, true)) (i := 23) (listed2 := (bm 27 16777215)) (by kernel_rfl) rfl (wg_off rfl (rfl) rfl) hS_ ?_
    refine D_skip (d := 61) (op := .unOp _ _ _) (gd := some (15, true)) (i := 24) (listed2 := (bm 27 33554431)) (by kernel_rfl) rfl (wg_off rfl (rfl) rfl) hS_ ?_
    refine D_pick (i := 25) (listed2 := (bm 27 67108863)) (by kernel_rfl) rfl rfl rfl rfl rfl (b := false) (rfl) (v := (.bool false)) (rfl) hS_ ?_
    refine D_pick (i := 26) (listed2 := (bm 27 134217727)) (by kernel_rfl) rfl rfl rfl rfl rfl (b := false) (rfl) (v := (.bool false)) (rfl) hS_ ?_
    refine D_done (by kernel_rfl) ?_
    change WP _ _ _ _ _ _
    refine W_cond rfl (b := false) (rfl) (fun h => (by cases h)) (fun _ => ?_)
    refine W_skip ?_
    change WP _ _ _ _ _ _
    refine W_region rfl ?_
    refine S_move rfl rfl rfl (v := (.int .i64 (j : Int))) (s5) ?_
    refine S_add64 rfl rfl rfl rfl (rfl) (rfl) (by omega) ?_
    refine S_assign rfl rfl rfl (v := (.int .i64 ((j : Int) + 1))) (rfl) ?_
    refine OPS.nil ?_
    exact ⟨q - 1, by omega, j + 1, s0, s3, s4, int_eq (by omega), by omega, HB, b1, E⟩
  ·skip
   have pF := hq34
   replace hq34 := of_decide_eq_false hq34
   have qF := hq34
   try rw [pF]
   refine W_exit ?_
   change WP _ _ _ _ _ _
   refine W_region rfl ?_
   refine S_move rfl rfl rfl (v := (.int .i64 (i : Int))) (s3) ?_
   refine S_add64 rfl rfl rfl rfl (rfl) (rfl) (by omega) ?_
   refine S_assign rfl rfl rfl (v := (.int .i64 ((i : Int) + 1))) (rfl) ?_
   refine OPS.nil ?_
   exact ⟨k - 1, by omega, i + 1, s0, int_eq (by omega), by omega, HB, E⟩
 ·skip
  have pF := hq12
  replace hq12 := of_decide_eq_false hq12
  have qF := hq12
  try rw [pF]
  refine W_exit ?_
  change WP _ _ _ _ _ _
  refine W_seq ?_
  refine W_region rfl ?_
  refine S_assign rfl rfl rfl (v := (.bool true)) (rfl) ?_
  refine OPS.nil ?_
  change WP _ _ _ _ _ _
  refine W_ret ?_
  change Fin' _ _ _ _ _ _
  refine End1 (n := ⟨64, []⟩) (t := 2) rfl (by decide) (v := (.bool true)) (rfl) ?_
  exact ⟨E, rfl, HB⟩

set_option maxHeartbeats 400000 in
theorem lookRat_c (w0 : World) {B : Nat} (kb : Nat) (no : Int) (vI vR : Value) (I R : List HE) (O : List OV) (HB : BOOK B kb w0 no vI vR I R O) (hX : ∀ h ∈ R, PD true O h) (hB : B ≤ kb) :
    Ret Tryz.prog 132 [(.pointer (some ⟨kb, 0, none⟩))] w0 (fun r w1 => Below B w0 w1 ∧ r = .bool true ∧ BOOK B kb w1 no vI vR I R O) := by
 have E := Below.refl B w0
 have hB0 : B ≤ w0.heap.size := by have := HB.blk.lt; omega
 refine Ret_of (n := 64) Tryz.func132 rfl rfl (Nat.le_of_ble_eq_true rfl) ?_
 refine W_seq ?_
 refine W_region rfl ?_
 refine S_assign rfl rfl rfl (v := (.bool false)) (rfl) ?_
 refine OPS.nil ?_
 change WP _ _ _ _ _ _
 refine W_seq ?_
 refine W_seq ?_
 refine W_region rfl ?_
 refine S_assign rfl rfl rfl (v := (.int .i64 0)) (rfl) ?_
 refine OPS.nil ?_
 change WP _ _ _ _ _ _
 refine W_block ?_
 refine W_loop (fun k σ w => ∃ (i : Nat), σ 0 = .pointer (some ⟨kb, 0, none⟩) ∧ σ 3 = .int .i64 (i : Int) ∧ i + k = R.length ∧ BOOK B kb w no vI vR I R O ∧ Below B w0 w) (R.length) ⟨0, rfl, rfl, by omega, HB, E⟩ ?_
 rintro k σ w ⟨i, s0, s3, hik, HB, E⟩
 have hml := HB.rowH.rc.le
 refine W_seq ?_
 refine W_seq ?_
 refine W_region rfl ?_
 refine S_move rfl rfl rfl (v := (.int .i64 (i : Int))) (s3) ?_
 refine S_move rfl rfl rfl (v := (.pointer (some ⟨kb, 0, none⟩))) (s0) ?_
 refine S_nil rfl rfl rfl (rfl) ?_
 refine S_field ft_assayerlaw01_Book_8 rfl rfl rfl (g := kb) (o := 0) (rfl) (o' := 8) rfl ?_
 refine S_load rfl rfl rfl (rfl) (LD.blk1 ti_Lassayerlaw01_heldRat HB.blk (v := vR) rfl) ?_
 refine S_len Tryz.underlying39 rfl rfl rfl (rfl) (m := R.length) (HB.rowH.len) ?_
 refine S_bin rfl rfl rfl rfl rfl (rfl) (rfl) (v := .bool (decide ((i : Int) < (R.length : Int)))) rfl ?_
 refine OPS.nil ?_
 change WP _ _ _ _ _ _
 refine W_cond rfl (rfl) (fun hq12 => ?_) (fun hq12 => ?_)
 ·skip
  have pT := hq12
  replace hq12 := of_decide_eq_true hq12
  have qT := hq12
  try rw [pT]
  refine W_skip ?_
  change WP _ _ _ _ _ _
  refine W_seq ?_
  refine W_block ?_
  refine W_seq ?_
  refine W_region rfl ?_
  refine S_move rfl rfl rfl (v := (.pointer (some ⟨kb, 0, none⟩))) (s0) ?_
  refine S_nil rfl rfl rfl (rfl) ?_
  refine S_field ft_assayerlaw01_Book_8 rfl rfl rfl (g := kb) (o := 0) (rfl) (o' := 8) rfl ?_
  refine S_load rfl rfl rfl (rfl) (LD.blk1 ti_Lassayerlaw01_heldRat HB.blk (v := vR) rfl) ?_
  refine S_move rfl rfl rfl (v := (.int .i64 (i : Int))) (s3) ?_
  obtain ⟨X1, h0, X3, hI, hX1⟩ := list_split (l := R) (i := i) (by omega)
  have hD := hX h0 (by rw [hI]; simp)
  have hm0 : h0 ∈ R := by rw [hI]; simp
  have HB1 := HB
  rw [hI] at HB1
  obtain ⟨A, m, c, Al, cl, n, o, rfl, hn, hm⟩ := hD.form (HB.okR hm0)
  obtain ⟨ad1, hp1, hc1⟩ := HB1.atR
  have hml2 : (X1 ++ (⟨.slice A m c, .slice Al (m + 40) cl, n, o⟩ : HE) :: X3).length = R.length := by rw [hI]
  refine S_idx Tryz.underlying39 ti_assayerlaw01_heldRat rfl rfl rfl rfl (rfl) (rfl) hp1 (by omega) ?_
  refine S_load rfl rfl rfl (rfl) (LD.cells ti_assayerlaw01_heldRat hc1 rfl) ?_
  have hlt := HB.lt
  have hkl := HB.blk.lt
  refine S_alloc ti_assayerlaw01_heldRat rfl rfl (cs := [.slice none 0 0, .slice none 0 0, .int .i64 0]) rfl ?_
  intro g1 w1 hg1 hs1 hB1 b1
  have hz1 := hB1.size
  have E := Below.step E hB1 hB0
  have HB := HB.below hB1
  refine S_store ti_assayerlaw01_heldRat rfl rfl rfl rfl (g := g1) (o := 0) (rfl) (v := (.agg #[(.slice A m c), (.slice Al (m + 40) cl), (.int .i64 n)])) (rfl) (vs := [(.slice A m c), (.slice Al (m + 40) cl), (.int .i64 n)]) rfl rfl (by simp [Value.oneCell']) b1 (by simp) (cs' := [(.slice A m c), (.slice Al (m + 40) cl), (.int .i64 n)]) rfl ?_
  intro w2 hU2 b1
  have E := Below.stepU E hU2 (by omega)
  have HB := HB.updHi hU2 hlt hkl (by omega)
  have hz2 := hU2.size
  refine OPS.nil ?_
  change WP _ _ _ _ _ _
  refine W_seq ?_
  refine W_seq ?_
  refine W_region rfl ?_
  refine S_field ft_assayerlaw01_heldRat_1 rfl rfl rfl (g := g1) (o := 0) (rfl) (o' := 1) rfl ?_
  refine S_load rfl rfl rfl (rfl) (LD.blk1 ti_Lapi_Rat b1 (v := (.slice Al (m + 40) cl)) rfl) ?_
  refine S_len Tryz.underlying49 rfl rfl rfl (rfl) (m := (m + 40)) (⟨_, _, rfl⟩) ?_
  refine S_field ft_assayerlaw01_heldRat_0 rfl rfl rfl (g := g1) (o := 0) (rfl) (o' := 0) rfl ?_
  refine S_load rfl rfl rfl (rfl) (LD.blk1 ti_Lapi_Rat b1 (v := (.slice A m c)) rfl) ?_
  refine S_len Tryz.underlying49 rfl rfl rfl (rfl) (m := m) (⟨_, _, rfl⟩) ?_
  refine S_add64 rfl rfl rfl rfl (rfl) (rfl) (by omega) ?_
  refine S_bin rfl rfl rfl rfl rfl (rfl) (rfl) (v := .bool false) (by simp [binV]) ?_
  refine OPS.nil ?_
  change WP _ _ _ _ _ _
  refine W_cond rfl (b := false) (rfl) (fun h => (by cases h)) (fun _ => ?_)
  refine W_skip ?_
  change WP _ _ _ _ _ _
  refine W_seq ?_
  refine W_region rfl ?_
  refine S_assign rfl rfl rfl (v := (.int .i64 0)) (rfl) ?_
  refine OPS.nil ?_
  change WP _ _ _ _ _ _
  refine W_block ?_
  refine W_loop (fun q σ w => ∃ (j : Nat), σ 0 = .pointer (some ⟨kb, 0, none⟩) ∧ σ 3 = .int .i64 (i : Int) ∧ σ 4 = .pointer (some ⟨g1, 0, none⟩) ∧ σ 5 = .int .i64 (j : Int) ∧ j + q = m + 40 ∧ BOOK B kb w no vI vR I R O ∧ Blk w g1 [(.slice A m c), (.slice Al (m + 40) cl), (.int .i64 n)] 183 ∧ Below B w0 w) (m + 40) ⟨0, s0, s3, rfl, rfl, by omega, HB, b1, E⟩ ?_
  rintro q σ w ⟨j, s0, s3, s4, s5, hjq, HB, b1, E⟩
  refine W_seq ?_
  refine W_seq ?_
  refine W_region rfl ?_
  refine S_move rfl rfl rfl (v := (.int .i64 (j : Int))) (s5) ?_
  refine S_field ft_assayerlaw01_heldRat_1 rfl rfl rfl (g := g1) (o := 0) (s4) (o' := 1) rfl ?_
  refine S_load rfl rfl rfl (rfl) (LD.blk1 ti_Lapi_Rat b1 (v := (.slice Al (m + 40) cl)) rfl) ?_
  refine S_len Tryz.underlying49 rfl rfl rfl (rfl) (m := (m + 40)) (⟨_, _, rfl⟩) ?_
  refine S_bin rfl rfl rfl rfl rfl (rfl) (rfl) (v := .bool (decide ((j : Int) < ((m + 40) : Int)))) rfl ?_
  refine OPS.nil ?_
  change WP _ _ _ _ _ _
  refine W_cond rfl (rfl) (fun hq34 => ?_) (fun hq34 => ?_)
  ·skip
   have pT := hq34
   replace hq34 := of_decide_eq_true hq34
   have qT := hq34
   try rw [pT]
   refine W_skip ?_
   change WP _ _ _ _ _ _
   refine W_seq ?_
   refine W_block ?_
   refine W_seq ?_
   rcases Nat.lt_or_ge j m with hjm | hjm
   ·skip
    refine D_begin_ mixed_ rfl rfl ?_
    intro w3 hB3 hz_3
    have hz3 := hB3.size
    have E := Below.step E hB3 hB0
    have HB := HB.below hB3
    have hl_b1 := b1.lt
    have b1 := b1.below hB3
    have hS_ : Below w3.heap.size w3 w3 := Below.refl _ _
    have E_S := E
    have HB_S := HB
    have b1_S := b1
    obtain ⟨e1, de1, hpe1, hde1, hce1⟩ := PD.long_at' hD (HB.okR hm0) (j := j) (by omega)
    obtain ⟨ae1, rfl, hoe1⟩ := hde1
    obtain ⟨Ae1, ce1, eae1⟩ := (HB.okO hoe1).len
    change ae1 = .slice Ae1 1 ce1 at eae1
    subst eae1
    obtain ⟨e2, de2, hpe2, hde2, hce2⟩ := PD.l_at hD (HB.okR hm0) (fun o ho => HB.okO ho) rfl j hjm
    obtain ⟨ae2, rfl, hoe2⟩ := hde2
    obtain ⟨Ae2, ce2, eae2⟩ := (HB.okO hoe2).len
    change ae2 = .slice Ae2 1 ce2 at eae2
    subst eae2
    refine D_field ft_assayerlaw01_heldRat_1 (i := 0) (listed2 := (bm 27 1)) (by kernel_rfl) rfl rfl rfl (g := g1) (o := 0) (s4) (o' := 1) rfl hS_ ?_
    refine D_load (i := 1) (listed2 := (bm 27 3)) (by kernel_rfl) rfl rfl rfl (rfl) (fun _ hS2 => LD.blk1 ti_Lapi_Rat (b1_S.below hS2) (v := (.slice Al (m + 40) cl)) rfl) hS_ ?_
    refine D_move (i := 2) (listed2 := (bm 27 7)) (by kernel_rfl) rfl rfl rfl (v := (.int .i64 (j : Int))) (s5) hS_ ?_
    refine D_idx Tryz.underlying49 ti_api_Rat (i := 3) (listed2 := (bm 27 15)) (by kernel_rfl) rfl rfl rfl rfl (rfl) (rfl) hpe1 (by omega) hS_ ?_
    refine D_load (i := 4) (listed2 := (bm 27 31)) (by kernel_rfl) rfl rfl rfl (rfl) (fun _ hS2 => LD.cells ti_api_Rat (CellsAt.below hce1 hS2) rfl) hS_ ?_
    refine D_field ft_assayerlaw01_heldRat_2 (i := 5) (listed2 := (bm 27 63)) (by kernel_rfl) rfl rfl rfl (g := g1) (o := 0) (s4) (o' := 2) rfl hS_ ?_
    refine D_load (i := 6) (listed2 := (bm 27 127)) (by kernel_rfl) rfl rfl rfl (rfl) (fun _ hS2 => LD.blk1 ti_int (b1_S.below hS2) (v := (.int .i64 n)) rfl) hS_ ?_
    refine D_only (i := 7) (by kernel_rfl) (listed2 := (bm 27 255)) (by kernel_rfl) ?_
    refine S_call en_assayerlaw01_isRat rfl rfl rfl (vs := [(.agg #[.bool false, .slice none 0 0, (.slice Ae1 1 ce1)]), (.int .i64 n)]) (rfl) (isRat_c _ n _ _ (Row.on (l := [1000 + n]) (HB.okO hoe1) (U32.mk (by omega) (by omega) U32.nil)).r hn) ?_
    rintro _ w4 ⟨hB4, rfl⟩
    have hz4 := hB4.size
    have E := Below.step E hB4 hB0
    have HB := HB.below hB4
    have hl_b1 := b1.lt
    have b1 := b1.below hB4
    have hS_ := Below.step hS_ hB4
    refine OPS.nil ⟨hS_, ?_⟩
    refine D_not (i := 8) (listed2 := (bm 27 511)) (by kernel_rfl) rfl rfl rfl (rfl) hS_ ?_
    change DRW _ _ _ _ _ _ _ (upd _ _ (.bool false)) _
    refine D_move (i := 9) (listed2 := (bm 27 1023)) (by kernel_rfl) rfl rfl rfl (v := (.bool false)) (rfl) hS_ ?_
    refine D_move (i := 10) (listed2 := (bm 27 2047)) (by kernel_rfl) rfl rfl rfl (v := (.int .i64 (j : Int))) (s5) hS_ ?_
    refine D_field ft_assayerlaw01_heldRat_0 (i := 11) (listed2 := (bm 27 4095)) (by kernel_rfl) rfl rfl rfl (g := g1) (o := 0) (s4) (o' := 0) rfl hS_ ?_
    refine D_load (i := 12) (listed2 := (bm 27 8191)) (by kernel_rfl) rfl rfl rfl (rfl) (fun _ hS2 => LD.blk1 ti_Lapi_Rat (b1_S.below hS2) (v := (.slice A m c)) rfl) hS_ ?_
    refine D_len Tryz.underlying49 (i := 13) (listed2 := (bm 27 16383)) (by kernel_rfl) rfl rfl rfl (rfl) (m := m) (⟨_, _, rfl⟩) hS_ ?_
    refine D_bin (i := 14) (listed2 := (bm 27 32767)) (by kernel_rfl) rfl rfl rfl rfl rfl (rfl) (rfl) (v := .bool true) (by simp [binV]; omega) hS_ ?_
    refine D_move (i := 15) (listed2 := (bm 27 65535)) (by kernel_rfl) rfl rfl rfl (v := (.bool true)) (rfl) hS_ ?_
    refine D_field ft_assayerlaw01_heldRat_0 (i := 16) (listed2 := (bm 27 131071)) (by kernel_rfl) rfl rfl rfl (g := g1) (o := 0) (s4) (o' := 0) rfl hS_ ?_
    refine D_load (i := 17) (listed2 := (bm 27 262143)) (by kernel_rfl) rfl rfl rfl (rfl) (fun _ hS2 => LD.blk1 ti_Lapi_Rat (b1_S.below hS2) (v := (.slice A m c)) rfl) hS_ ?_
    refine D_move (i := 18) (listed2 := (bm 27 524287)) (by kernel_rfl) rfl rfl rfl (v := (.int .i64 (j : Int))) (s5) hS_ ?_
    refine D_idx Tryz.underlying49 ti_api_Rat (i := 19) (listed2 := (bm 27 1048575)) (by kernel_rfl) rfl rfl rfl rfl (rfl) (rfl) hpe2 (by omega) hS_ ?_
    refine D_load (i := 20) (listed2 := (bm 27 2097151)) (by kernel_rfl) rfl rfl rfl (rfl) (fun _ hS2 => LD.cells ti_api_Rat (CellsAt.below hce2 hS2) rfl) hS_ ?_
    refine D_field ft_assayerlaw01_heldRat_2 (i := 21) (listed2 := (bm 27 4194303)) (by kernel_rfl) rfl rfl rfl (g := g1) (o := 0) (s4) (o' := 2) rfl hS_ ?_
    refine D_load (i := 22) (listed2 := (bm 27 8388607)) (by kernel_rfl) rfl rfl rfl (rfl) (fun _ hS2 => LD.blk1 ti_int (b1_S.below hS2) (v := (.int .i64 n)) rfl) hS_ ?_
    refine D_only (i := 23) (by kernel_rfl) (listed2 := (bm 27 16777215)) (by kernel_rfl) ?_
    refine S_call en_assayerlaw01_isRat rfl rfl rfl (vs := [(.agg #[.bool false, .slice none 0 0, (.slice Ae2 1 ce2)]), (.int .i64 n)]) (rfl) (isRat_c _ n _ _ (Row.on (l := [1000 + n]) (HB.okO hoe2) (U32.mk (by omega) (by omega) U32.nil)).r hn) ?_
    rintro _ w5 ⟨hB5, rfl⟩
    have hz5 := hB5.size
    have E := Below.step E hB5 hB0
    have HB := HB.below hB5
    have hl_b1 := b1.lt
    have b1 := b1.below hB5
    have hS_ := Below.step hS_ hB5
    refine OPS.nil ⟨hS_, ?_⟩
    refine D_not (i := 24) (listed2 := (bm 27 33554431)) (by kernel_rfl) rfl rfl rfl (rfl) hS_ ?_
    change DRW _ _ _ _ _ _ _ (upd _ _ (.bool false)) _
    refine D_pick (i := 25) (listed2 := (bm 27 67108863)) (by kernel_rfl) rfl rfl rfl rfl rfl (b := true) (rfl) (v := (.bool false)) (rfl) hS_ ?_
    refine D_pick (i := 26) (listed2 := (bm 27 134217727)) (by kernel_rfl) rfl rfl rfl rfl rfl (b := false) (rfl) (v := (.bool false)) (rfl) hS_ ?_
    refine D_done (by kernel_rfl) ?_
    change WP _ _ _ _ _ _
    refine W_cond rfl (b := false) (rfl) (fun h => (by cases h)) (fun _ => ?_)
    refine W_skip ?_
    change WP _ _ _ _ _ _
    refine W_region rfl ?_
    refine S_move rfl rfl rfl (v := (.int .i64 (j : Int))) (s5) ?_
    refine S_add64 rfl rfl rfl rfl (rfl) (rfl) (by omega) ?_
    refine S_assign rfl rfl rfl (v := (.int .i64 ((j : Int) + 1))) (rfl) ?_
    refine OPS.nil ?_
    exact ⟨q - 1, by omega, j + 1, s0, s3, s4, int_eq (by omega), by omega, HB, b1, E⟩
   ·skip
    refine D_begin_ mixed_ rfl rfl ?_
    intro w6 hB6 hz_6
    have hz6 := hB6.size
    have E := Below.step E hB6 hB0
    have HB := HB.below hB6
    have hl_b1 := b1.lt
    have b1 := b1.below hB6
    have hS_ : Below w6.heap.size w6 w6 := Below.refl _ _
    have E_S := E
    have HB_S := HB
    have b1_S := b1
    obtain ⟨e1, de1, hpe1, hde1, hce1⟩ := PD.long_at' hD (HB.okR hm0) (j := j) (by omega)
    obtain ⟨ae1, rfl, hoe1⟩ := hde1
    obtain ⟨Ae1, ce1, eae1⟩ := (HB.okO hoe1).len
    change ae1 = .slice Ae1 1 ce1 at eae1
    subst eae1
    refine D_field ft_assayerlaw01_heldRat_1 (i := 0) (listed2 := (bm 27 1)) (by kernel_rfl) rfl rfl rfl (g := g1) (o := 0) (s4) (o' := 1) rfl hS_ ?_
    refine D_load (i := 1) (listed2 := (bm 27 3)) (by kernel_rfl) rfl rfl rfl (rfl) (fun _ hS2 => LD.blk1 ti_Lapi_Rat (b1_S.below hS2) (v := (.slice Al (m + 40) cl)) rfl) hS_ ?_
    refine D_move (i := 2) (listed2 := (bm 27 7)) (by kernel_rfl) rfl rfl rfl (v := (.int .i64 (j : Int))) (s5) hS_ ?_
    refine D_idx Tryz.underlying49 ti_api_Rat (i := 3) (listed2 := (bm 27 15)) (by kernel_rfl) rfl rfl rfl rfl (rfl) (rfl) hpe1 (by omega) hS_ ?_
    refine D_load (i := 4) (listed2 := (bm 27 31)) (by kernel_rfl) rfl rfl rfl (rfl) (fun _ hS2 => LD.cells ti_api_Rat (CellsAt.below hce1 hS2) rfl) hS_ ?_
    refine D_field ft_assayerlaw01_heldRat_2 (i := 5) (listed2 := (bm 27 63)) (by kernel_rfl) rfl rfl rfl (g := g1) (o := 0) (s4) (o' := 2) rfl hS_ ?_
    refine D_load (i := 6) (listed2 := (bm 27 127)) (by kernel_rfl) rfl rfl rfl (rfl) (fun _ hS2 => LD.blk1 ti_int (b1_S.below hS2) (v := (.int .i64 n)) rfl) hS_ ?_
    refine D_only (i := 7) (by kernel_rfl) (listed2 := (bm 27 255)) (by kernel_rfl) ?_
    refine S_call en_assayerlaw01_isRat rfl rfl rfl (vs := [(.agg #[.bool false, .slice none 0 0, (.slice Ae1 1 ce1)]), (.int .i64 n)]) (rfl) (isRat_c _ n _ _ (Row.on (l := [1000 + n]) (HB.okO hoe1) (U32.mk (by omega) (by omega) U32.nil)).r hn) ?_
    rintro _ w7 ⟨hB7, rfl⟩
    have hz7 := hB7.size
    have E := Below.step E hB7 hB0
    have HB := HB.below hB7
    have hl_b1 := b1.lt
    have b1 := b1.below hB7
    have hS_ := Below.step hS_ hB7
    refine OPS.nil ⟨hS_, ?_⟩
    refine D_not (i := 8) (listed2 := (bm 27 511)) (by kernel_rfl) rfl rfl rfl (rfl) hS_ ?_
    change DRW _ _ _ _ _ _ _ (upd _ _ (.bool false)) _
    refine D_move (i := 9) (listed2 := (bm 27 1023)) (by kernel_rfl) rfl rfl rfl (v := (.bool false)) (rfl) hS_ ?_
    refine D_move (i := 10) (listed2 := (bm 27 2047)) (by kernel_rfl) rfl rfl rfl (v := (.int .i64 (j : Int))) (s5) hS_ ?_
    refine D_field ft_assayerlaw01_heldRat_0 (i := 11) (listed2 := (bm 27 4095)) (by kernel_rfl) rfl rfl rfl (g := g1) (o := 0) (s4) (o' := 0) rfl hS_ ?_
    refine D_load (i := 12) (listed2 := (bm 27 8191)) (by kernel_rfl) rfl rfl rfl (rfl) (fun _ hS2 => LD.blk1 ti_Lapi_Rat (b1_S.below hS2) (v := (.slice A m c)) rfl) hS_ ?_
    refine D_len Tryz.underlying49 (i := 13) (listed2 := (bm 27 16383)) (by kernel_rfl) rfl rfl rfl (rfl) (m := m) (⟨_, _, rfl⟩) hS_ ?_
    refine D_bin (i := 14) (listed2 := (bm 27 32767)) (by kernel_rfl) rfl rfl rfl rfl rfl (rfl) (rfl) (v := .bool false) (by simp [binV]; omega) hS_ ?_
    refine D_move (i := 15) (listed2 := (bm 27 65535)) (by kernel_rfl) rfl rfl rfl (v := (.bool false)) (rfl) hS_ ?_
    refine D_skip (d := 53) (op := .fieldAddr _ _ _) (gd := some (15, true)) (i := 16) (listed2 := (bm 27 131071)) (by kernel_rfl) rfl (wg_off rfl (rfl) rfl) hS_ ?_
    refine D_skip (d := 54) (op := .load _ _) (gd := some (15, true)) (i := 17) (listed2 := (bm 27 262143)) (by kernel_rfl) rfl (wg_off rfl (rfl) rfl) hS_ ?_
    refine D_skip (d := 55) (op := .move _) (gd := some (15, true)) (i := 18) (listed2 := (bm 27 524287)) (by kernel_rfl) rfl (wg_off rfl (rfl) rfl) hS_ ?_
    refine D_skip (d := 56) (op := .indexAddr _ _ _) (gd := some (15, true)) (i := 19) (listed2 := (bm 27 1048575)) (by kernel_rfl) rfl (wg_off rfl (rfl) rfl) hS_ ?_
    refine D_skip (d := 57) (op := .load _ _) (gd := some (15, true)) (i := 20) (listed2 := (bm 27 2097151)) (by kernel_rfl) rfl (wg_off rfl (rfl) rfl) hS_ ?_
    refine D_skip (d := 58) (op := .fieldAddr _ _ _) (gd := some (15, true)) (i := 21) (listed2 := (bm 27 4194303)) (by kernel_rfl) rfl (wg_off rfl (rfl) rfl) hS_ ?_
    refine D_skip (d := 59) (op := .load _ _) (gd := some (15, true)) (i := 22) (listed2 := (bm 27 8388607)) (by kernel_rfl) rfl (wg_off rfl (rfl) rfl) hS_ ?_
    refine D_skip (d := 60) (op := .call _) (gd := some (15, true)) (i := 23) (listed2 := (bm 27 16777215)) (by kernel_rfl) rfl (wg_off rfl (rfl) rfl) hS_ ?_
    refine D_skip (d := 61) (op := .unOp _ _ _) (gd := some (15, true)) (i := 24) (listed2 := (bm 27 33554431)) (by kernel_rfl) rfl (wg_off rfl (rfl) rfl) hS_ ?_
    refine D_pick (i := 25) (listed2 := (bm 27 67108863)) (by kernel_rfl) rfl rfl rfl rfl rfl (b := false) (rfl) (v := (.bool false)) (rfl) hS_ ?_
    refine D_pick (i := 26) (listed2 := (bm 27 134217727)) (by kernel_rfl) rfl rfl rfl rfl rfl (b := false) (rfl) (v := (.bool false)) (rfl) hS_ ?_
    refine D_done (by kernel_rfl) ?_
    change WP _ _ _ _ _ _
    refine W_cond rfl (b := false) (rfl) (fun h => (by cases h)) (fun _ => ?_)
    refine W_skip ?_
    change WP _ _ _ _ _ _
    refine W_region rfl ?_
    refine S_move rfl rfl rfl (v := (.int .i64 (j : Int))) (s5) ?_
    refine S_add64 rfl rfl rfl rfl (rfl) (rfl) (by omega) ?_
    refine S_assign rfl rfl rfl (v := (.int .i64 ((j : Int) + 1))) (rfl) ?_
    refine OPS.nil ?_
    exact ⟨q - 1, by omega, j + 1, s0, s3, s4, int_eq (by omega), by omega, HB, b1, E⟩
  ·skip
   have pF := hq34
   replace hq34 := of_decide_eq_false hq34
   have qF := hq34
   try rw [pF]
   refine W_exit ?_
   change WP _ _ _ _ _ _
   refine W_region rfl ?_
   refine S_move rfl rfl rfl (v := (.int .i64 (i : Int))) (s3) ?_
   refine S_add64 rfl rfl rfl rfl (rfl) (rfl) (by omega) ?_
   refine S_assign rfl rfl rfl (v := (.int .i64 ((i : Int) + 1))) (rfl) ?_
   refine OPS.nil ?_
   exact ⟨k - 1, by omega, i + 1, s0, int_eq (by omega), by omega, HB, E⟩
 ·skip
  have pF := hq12
  replace hq12 := of_decide_eq_false hq12
  have qF := hq12
  try rw [pF]
  refine W_exit ?_
  change WP _ _ _ _ _ _
  refine W_seq ?_
  refine W_region rfl ?_
  refine S_assign rfl rfl rfl (v := (.bool true)) (rfl) ?_
  refine OPS.nil ?_
  change WP _ _ _ _ _ _
  refine W_ret ?_
  change Fin' _ _ _ _ _ _
  refine End1 (n := ⟨64, []⟩) (t := 2) rfl (by decide) (v := (.bool true)) (rfl) ?_
  exact ⟨E, rfl, HB⟩

end Go.Proofs.YtccmicegihlfbaaGreatDoor

/- A book: no two of its lists share memory. -/
namespace Go.Proofs.YtccmicegihlfbaaGreatDoor
open Go.RowKit

set_option maxHeartbeats 400000 in
theorem apart_b (w0 : World) {B : Nat} (kb : Nat) (no : Int) (vI vR : Value) (I R : List HE) (O : List OV) (HB : BOOK B kb w0 no vI vR I R O) (hI : ∀ h ∈ I, PK false h) (hR : ∀ h ∈ R, PK true h) (hB : B ≤ kb) :
    Ret Tryz.prog 27 [(.pointer (some ⟨kb, 0, none⟩))] w0 (fun r w1 => Below B w0 w1 ∧ r = .bool true) := by
 have E := Below.refl B w0
 have hB0 : B ≤ w0.heap.size := by have := HB.blk.lt; omega
 refine Ret_of (n := 97) Tryz.func27 rfl rfl (Nat.le_of_ble_eq_true rfl) ?_
 refine W_seq ?_
 refine W_region rfl ?_
 refine S_assign rfl rfl rfl (v := (.bool false)) (rfl) ?_
 refine OPS.nil ?_
 change WP _ _ _ _ _ _
 refine W_seq ?_
 refine W_region rfl ?_
 refine S_move rfl rfl rfl (v := (.pointer (some ⟨kb, 0, none⟩))) (rfl) ?_
 refine S_call en_passayerlaw01_Book_fillByte rfl rfl rfl (vs := [(.pointer (some ⟨kb, 0, none⟩))]) (rfl) (fillByte_e _ kb no vI vR HB.blk) ?_
 rintro _ _ rfl
 refine OPS.nil ?_
 change WP _ _ _ _ _ _
 refine W_seq ?_
 refine W_region rfl ?_
 refine S_move rfl rfl rfl (v := (.pointer (some ⟨kb, 0, none⟩))) (rfl) ?_
 refine S_call en_passayerlaw01_Book_fillInt32 rfl rfl rfl (vs := [(.pointer (some ⟨kb, 0, none⟩))]) (rfl) (fillInt32_c _ kb no vI vR _ _ _ HB hI hB) ?_
 rintro _ w1 ⟨hT, ⟨I1, O1, HB, hl1, hF1, hO1⟩⟩
 have E := E.trans hT
 refine OPS.nil ?_
 change WP _ _ _ _ _ _
 refine W_seq ?_
 refine W_region rfl ?_
 refine S_move rfl rfl rfl (v := (.pointer (some ⟨kb, 0, none⟩))) (rfl) ?_
 refine S_call en_passayerlaw01_Book_fillNum rfl rfl rfl (vs := [(.pointer (some ⟨kb, 0, none⟩))]) (rfl) (fillNum_e _ kb no vI vR HB.blk) ?_
 rintro _ _ rfl
 refine OPS.nil ?_
 change WP _ _ _ _ _ _
 refine W_seq ?_
 refine W_region rfl ?_
 refine S_move rfl rfl rfl (v := (.pointer (some ⟨kb, 0, none⟩))) (rfl) ?_
 refine S_call en_passayerlaw01_Book_fillBool rfl rfl rfl (vs := [(.pointer (some ⟨kb, 0, none⟩))]) (rfl) (fillBool_e _ kb no vI vR HB.blk) ?_
 rintro _ _ rfl
 refine OPS.nil ?_
 change WP _ _ _ _ _ _
 refine W_seq ?_
 refine W_region rfl ?_
 refine S_move rfl rfl rfl (v := (.pointer (some ⟨kb, 0, none⟩))) (rfl) ?_
 refine S_call en_passayerlaw01_Book_fillText rfl rfl rfl (vs := [(.pointer (some ⟨kb, 0, none⟩))]) (rfl) (fillText_e _ kb no vI vR HB.blk) ?_
 rintro _ _ rfl
 refine OPS.nil ?_
 change WP _ _ _ _ _ _
 refine W_seq ?_
 refine W_region rfl ?_
 refine S_move rfl rfl rfl (v := (.pointer (some ⟨kb, 0, none⟩))) (rfl) ?_
 refine S_call en_passayerlaw01_Book_fillToken rfl rfl rfl (vs := [(.pointer (some ⟨kb, 0, none⟩))]) (rfl) (fillToken_e _ kb no vI vR HB.blk) ?_
 rintro _ _ rfl
 refine OPS.nil ?_
 change WP _ _ _ _ _ _
 refine W_seq ?_
 refine W_region rfl ?_
 refine S_move rfl rfl rfl (v := (.pointer (some ⟨kb, 0, none⟩))) (rfl) ?_
 refine S_call en_passayerlaw01_Book_fillTenant rfl rfl rfl (vs := [(.pointer (some ⟨kb, 0, none⟩))]) (rfl) (fillTenant_e _ kb no vI vR HB.blk) ?_
 rintro _ _ rfl
 refine OPS.nil ?_
 change WP _ _ _ _ _ _
 refine W_seq ?_
 refine W_region rfl ?_
 refine S_move rfl rfl rfl (v := (.pointer (some ⟨kb, 0, none⟩))) (rfl) ?_
 refine S_call en_passayerlaw01_Book_fillRat rfl rfl rfl (vs := [(.pointer (some ⟨kb, 0, none⟩))]) (rfl) (fillRat_c _ kb no vI vR _ _ _ HB hR hB) ?_
 rintro _ w2 ⟨hT, ⟨R1, O2, HB, hl2, hF2, hO2⟩⟩
 have E := E.trans hT
 refine OPS.nil ?_
 change WP _ _ _ _ _ _
 refine W_seq ?_
 refine W_region rfl ?_
 refine S_move rfl rfl rfl (v := (.pointer (some ⟨kb, 0, none⟩))) (rfl) ?_
 refine S_call en_passayerlaw01_Book_fillVar rfl rfl rfl (vs := [(.pointer (some ⟨kb, 0, none⟩))]) (rfl) (fillVar_e _ kb no vI vR HB.blk) ?_
 rintro _ _ rfl
 refine OPS.nil ?_
 change WP _ _ _ _ _ _
 refine W_seq ?_
 refine W_region rfl ?_
 refine S_move rfl rfl rfl (v := (.pointer (some ⟨kb, 0, none⟩))) (rfl) ?_
 refine S_call en_passayerlaw01_Book_fillRow rfl rfl rfl (vs := [(.pointer (some ⟨kb, 0, none⟩))]) (rfl) (fillRow_e _ kb no vI vR HB.blk) ?_
 rintro _ _ rfl
 refine OPS.nil ?_
 change WP _ _ _ _ _ _
 refine W_seq ?_
 refine W_region rfl ?_
 refine S_move rfl rfl rfl (v := (.pointer (some ⟨kb, 0, none⟩))) (rfl) ?_
 refine S_call en_passayerlaw01_Book_fillNode rfl rfl rfl (vs := [(.pointer (some ⟨kb, 0, none⟩))]) (rfl) (fillNode_e _ kb no vI vR HB.blk) ?_
 rintro _ _ rfl
 refine OPS.nil ?_
 change WP _ _ _ _ _ _
 refine W_seq ?_
 refine W_region rfl ?_
 refine S_move rfl rfl rfl (v := (.pointer (some ⟨kb, 0, none⟩))) (rfl) ?_
 refine S_call en_passayerlaw01_Book_fillJob rfl rfl rfl (vs := [(.pointer (some ⟨kb, 0, none⟩))]) (rfl) (fillJob_e _ kb no vI vR HB.blk) ?_
 rintro _ _ rfl
 refine OPS.nil ?_
 change WP _ _ _ _ _ _
 refine W_seq ?_
 refine W_region rfl ?_
 refine S_move rfl rfl rfl (v := (.pointer (some ⟨kb, 0, none⟩))) (rfl) ?_
 refine S_call en_passayerlaw01_Book_growByte rfl rfl rfl (vs := [(.pointer (some ⟨kb, 0, none⟩))]) (rfl) (growByte_e _ kb no vI vR HB.blk) ?_
 rintro _ _ rfl
 refine OPS.nil ?_
 change WP _ _ _ _ _ _
 refine W_seq ?_
 refine W_region rfl ?_
 refine S_move rfl rfl rfl (v := (.pointer (some ⟨kb, 0, none⟩))) (rfl) ?_
 refine S_call en_passayerlaw01_Book_growInt32 rfl rfl rfl (vs := [(.pointer (some ⟨kb, 0, none⟩))]) (rfl) (growInt32_c _ kb no vI vR _ _ _ HB (fun h hh => (hF1 h hh).mono hO2) hB) ?_
 rintro _ w3 ⟨hT, ⟨I2, O3, HB, hl3, hF3, hO3⟩⟩
 have E := E.trans hT
 refine OPS.nil ?_
 change WP _ _ _ _ _ _
 refine W_seq ?_
 refine W_region rfl ?_
 refine S_move rfl rfl rfl (v := (.pointer (some ⟨kb, 0, none⟩))) (rfl) ?_
 refine S_call en_passayerlaw01_Book_growNum rfl rfl rfl (vs := [(.pointer (some ⟨kb, 0, none⟩))]) (rfl) (growNum_e _ kb no vI vR HB.blk) ?_
 rintro _ _ rfl
 refine OPS.nil ?_
 change WP _ _ _ _ _ _
 refine W_seq ?_
 refine W_region rfl ?_
 refine S_move rfl rfl rfl (v := (.pointer (some ⟨kb, 0, none⟩))) (rfl) ?_
 refine S_call en_passayerlaw01_Book_growBool rfl rfl rfl (vs := [(.pointer (some ⟨kb, 0, none⟩))]) (rfl) (growBool_e _ kb no vI vR HB.blk) ?_
 rintro _ _ rfl
 refine OPS.nil ?_
 change WP _ _ _ _ _ _
 refine W_seq ?_
 refine W_region rfl ?_
 refine S_move rfl rfl rfl (v := (.pointer (some ⟨kb, 0, none⟩))) (rfl) ?_
 refine S_call en_passayerlaw01_Book_growText rfl rfl rfl (vs := [(.pointer (some ⟨kb, 0, none⟩))]) (rfl) (growText_e _ kb no vI vR HB.blk) ?_
 rintro _ _ rfl
 refine OPS.nil ?_
 change WP _ _ _ _ _ _
 refine W_seq ?_
 refine W_region rfl ?_
 refine S_move rfl rfl rfl (v := (.pointer (some ⟨kb, 0, none⟩))) (rfl) ?_
 refine S_call en_passayerlaw01_Book_growToken rfl rfl rfl (vs := [(.pointer (some ⟨kb, 0, none⟩))]) (rfl) (growToken_e _ kb no vI vR HB.blk) ?_
 rintro _ _ rfl
 refine OPS.nil ?_
 change WP _ _ _ _ _ _
 refine W_seq ?_
 refine W_region rfl ?_
 refine S_move rfl rfl rfl (v := (.pointer (some ⟨kb, 0, none⟩))) (rfl) ?_
 refine S_call en_passayerlaw01_Book_growTenant rfl rfl rfl (vs := [(.pointer (some ⟨kb, 0, none⟩))]) (rfl) (growTenant_e _ kb no vI vR HB.blk) ?_
 rintro _ _ rfl
 refine OPS.nil ?_
 change WP _ _ _ _ _ _
 refine W_seq ?_
 refine W_region rfl ?_
 refine S_move rfl rfl rfl (v := (.pointer (some ⟨kb, 0, none⟩))) (rfl) ?_
 refine S_call en_passayerlaw01_Book_growRat rfl rfl rfl (vs := [(.pointer (some ⟨kb, 0, none⟩))]) (rfl) (growRat_c _ kb no vI vR _ _ _ HB (fun h hh => (hF2 h hh).mono hO3) hB) ?_
 rintro _ w4 ⟨hT, ⟨R2, O4, HB, hl4, hF4, hO4⟩⟩
 have E := E.trans hT
 refine OPS.nil ?_
 change WP _ _ _ _ _ _
 refine W_seq ?_
 refine W_region rfl ?_
 refine S_move rfl rfl rfl (v := (.pointer (some ⟨kb, 0, none⟩))) (rfl) ?_
 refine S_call en_passayerlaw01_Book_growVar rfl rfl rfl (vs := [(.pointer (some ⟨kb, 0, none⟩))]) (rfl) (growVar_e _ kb no vI vR HB.blk) ?_
 rintro _ _ rfl
 refine OPS.nil ?_
 change WP _ _ _ _ _ _
 refine W_seq ?_
 refine W_region rfl ?_
 refine S_move rfl rfl rfl (v := (.pointer (some ⟨kb, 0, none⟩))) (rfl) ?_
 refine S_call en_passayerlaw01_Book_growRow rfl rfl rfl (vs := [(.pointer (some ⟨kb, 0, none⟩))]) (rfl) (growRow_e _ kb no vI vR HB.blk) ?_
 rintro _ _ rfl
 refine OPS.nil ?_
 change WP _ _ _ _ _ _
 refine W_seq ?_
 refine W_region rfl ?_
 refine S_move rfl rfl rfl (v := (.pointer (some ⟨kb, 0, none⟩))) (rfl) ?_
 refine S_call en_passayerlaw01_Book_growNode rfl rfl rfl (vs := [(.pointer (some ⟨kb, 0, none⟩))]) (rfl) (growNode_e _ kb no vI vR HB.blk) ?_
 rintro _ _ rfl
 refine OPS.nil ?_
 change WP _ _ _ _ _ _
 refine W_seq ?_
 refine W_region rfl ?_
 refine S_move rfl rfl rfl (v := (.pointer (some ⟨kb, 0, none⟩))) (rfl) ?_
 refine S_call en_passayerlaw01_Book_growJob rfl rfl rfl (vs := [(.pointer (some ⟨kb, 0, none⟩))]) (rfl) (growJob_e _ kb no vI vR HB.blk) ?_
 rintro _ _ rfl
 refine OPS.nil ?_
 change WP _ _ _ _ _ _
 refine W_seq ?_
 refine W_region rfl ?_
 refine S_move rfl rfl rfl (v := (.pointer (some ⟨kb, 0, none⟩))) (rfl) ?_
 refine S_call en_passayerlaw01_Book_lookByte rfl rfl rfl (vs := [(.pointer (some ⟨kb, 0, none⟩))]) (rfl) (lookByte_e _ kb no vI vR HB.blk) ?_
 rintro _ _ ⟨rfl, rfl⟩
 refine S_move rfl rfl rfl (v := (.bool true)) (rfl) ?_
 refine S_move rfl rfl rfl (v := (.pointer (some ⟨kb, 0, none⟩))) (rfl) ?_
 refine S_call en_passayerlaw01_Book_lookInt32 rfl rfl rfl (vs := [(.pointer (some ⟨kb, 0, none⟩))]) (rfl) (lookInt32_c _ kb no vI vR _ _ _ HB (fun h hh => (hF3 h hh).mono hO4) hB) ?_
 rintro _ w5 ⟨hT, ⟨rfl, HB⟩⟩
 have E := E.trans hT
 refine S_pick rfl rfl rfl rfl rfl (b := true) (rfl) (v := (.bool true)) (rfl) ?_
 refine S_move rfl rfl rfl (v := (.bool true)) (rfl) ?_
 refine S_move rfl rfl rfl (v := (.pointer (some ⟨kb, 0, none⟩))) (rfl) ?_
 refine S_call en_passayerlaw01_Book_lookNum rfl rfl rfl (vs := [(.pointer (some ⟨kb, 0, none⟩))]) (rfl) (lookNum_e _ kb no vI vR HB.blk) ?_
 rintro _ _ ⟨rfl, rfl⟩
 refine S_pick rfl rfl rfl rfl rfl (b := true) (rfl) (v := (.bool true)) (rfl) ?_
 refine S_move rfl rfl rfl (v := (.bool true)) (rfl) ?_
 refine S_move rfl rfl rfl (v := (.pointer (some ⟨kb, 0, none⟩))) (rfl) ?_
 refine S_call en_passayerlaw01_Book_lookBool rfl rfl rfl (vs := [(.pointer (some ⟨kb, 0, none⟩))]) (rfl) (lookBool_e _ kb no vI vR HB.blk) ?_
 rintro _ _ ⟨rfl, rfl⟩
 refine S_pick rfl rfl rfl rfl rfl (b := true) (rfl) (v := (.bool true)) (rfl) ?_
 refine S_move rfl rfl rfl (v := (.bool true)) (rfl) ?_
 refine S_move rfl rfl rfl (v := (.pointer (some ⟨kb, 0, none⟩))) (rfl) ?_
 refine S_call en_passayerlaw01_Book_lookText rfl rfl rfl (vs := [(.pointer (some ⟨kb, 0, none⟩))]) (rfl) (lookText_e _ kb no vI vR HB.blk) ?_
 rintro _ _ ⟨rfl, rfl⟩
 refine S_pick rfl rfl rfl rfl rfl (b := true) (rfl) (v := (.bool true)) (rfl) ?_
 refine S_move rfl rfl rfl (v := (.bool true)) (rfl) ?_
 refine S_move rfl rfl rfl (v := (.pointer (some ⟨kb, 0, none⟩))) (rfl) ?_
 refine S_call en_passayerlaw01_Book_lookToken rfl rfl rfl (vs := [(.pointer (some ⟨kb, 0, none⟩))]) (rfl) (lookToken_e _ kb no vI vR HB.blk) ?_
 rintro _ _ ⟨rfl, rfl⟩
 refine S_pick rfl rfl rfl rfl rfl (b := true) (rfl) (v := (.bool true)) (rfl) ?_
 refine S_move rfl rfl rfl (v := (.bool true)) (rfl) ?_
 refine S_move rfl rfl rfl (v := (.pointer (some ⟨kb, 0, none⟩))) (rfl) ?_
 refine S_call en_passayerlaw01_Book_lookTenant rfl rfl rfl (vs := [(.pointer (some ⟨kb, 0, none⟩))]) (rfl) (lookTenant_e _ kb no vI vR HB.blk) ?_
 rintro _ _ ⟨rfl, rfl⟩
 refine S_pick rfl rfl rfl rfl rfl (b := true) (rfl) (v := (.bool true)) (rfl) ?_
 refine S_move rfl rfl rfl (v := (.bool true)) (rfl) ?_
 refine S_move rfl rfl rfl (v := (.pointer (some ⟨kb, 0, none⟩))) (rfl) ?_
 refine S_call en_passayerlaw01_Book_lookRat rfl rfl rfl (vs := [(.pointer (some ⟨kb, 0, none⟩))]) (rfl) (lookRat_c _ kb no vI vR _ _ _ HB hF4 hB) ?_
 rintro _ w6 ⟨hT, ⟨rfl, HB⟩⟩
 have E := E.trans hT
 refine S_pick rfl rfl rfl rfl rfl (b := true) (rfl) (v := (.bool true)) (rfl) ?_
 refine S_move rfl rfl rfl (v := (.bool true)) (rfl) ?_
 refine S_move rfl rfl rfl (v := (.pointer (some ⟨kb, 0, none⟩))) (rfl) ?_
 refine S_call en_passayerlaw01_Book_lookVar rfl rfl rfl (vs := [(.pointer (some ⟨kb, 0, none⟩))]) (rfl) (lookVar_e _ kb no vI vR HB.blk) ?_
 rintro _ _ ⟨rfl, rfl⟩
 refine S_pick rfl rfl rfl rfl rfl (b := true) (rfl) (v := (.bool true)) (rfl) ?_
 refine S_move rfl rfl rfl (v := (.bool true)) (rfl) ?_
 refine S_move rfl rfl rfl (v := (.pointer (some ⟨kb, 0, none⟩))) (rfl) ?_
 refine S_call en_passayerlaw01_Book_lookRow rfl rfl rfl (vs := [(.pointer (some ⟨kb, 0, none⟩))]) (rfl) (lookRow_e _ kb no vI vR HB.blk) ?_
 rintro _ _ ⟨rfl, rfl⟩
 refine S_pick rfl rfl rfl rfl rfl (b := true) (rfl) (v := (.bool true)) (rfl) ?_
 refine S_move rfl rfl rfl (v := (.bool true)) (rfl) ?_
 refine S_move rfl rfl rfl (v := (.pointer (some ⟨kb, 0, none⟩))) (rfl) ?_
 refine S_call en_passayerlaw01_Book_lookNode rfl rfl rfl (vs := [(.pointer (some ⟨kb, 0, none⟩))]) (rfl) (lookNode_e _ kb no vI vR HB.blk) ?_
 rintro _ _ ⟨rfl, rfl⟩
 refine S_pick rfl rfl rfl rfl rfl (b := true) (rfl) (v := (.bool true)) (rfl) ?_
 refine S_move rfl rfl rfl (v := (.bool true)) (rfl) ?_
 refine S_move rfl rfl rfl (v := (.pointer (some ⟨kb, 0, none⟩))) (rfl) ?_
 refine S_call en_passayerlaw01_Book_lookJob rfl rfl rfl (vs := [(.pointer (some ⟨kb, 0, none⟩))]) (rfl) (lookJob_e _ kb no vI vR HB.blk) ?_
 rintro _ _ ⟨rfl, rfl⟩
 refine S_pick rfl rfl rfl rfl rfl (b := true) (rfl) (v := (.bool true)) (rfl) ?_
 refine S_assign rfl rfl rfl (v := (.bool true)) (rfl) ?_
 refine OPS.nil ?_
 change WP _ _ _ _ _ _
 refine W_ret ?_
 change Fin' _ _ _ _ _ _
 refine End1 (n := ⟨97, []⟩) (t := 2) rfl (by decide) (v := (.bool true)) (rfl) ?_
 exact ⟨E, rfl⟩


theorem apart_c (w0 : World) {B : Nat} (kb N : Nat) (O : List OV) (h : BK B kb w0 N O) : Ret Tryz.prog 27 [.pointer (some ⟨kb, 0, none⟩)] w0 (fun r w1 => Below B w0 w1 ∧ r = .bool true) := by
  obtain ⟨no, vI, vR, I, R, h1, h2, h3, h4, h5, h6⟩ := h
  exact apart_b w0 kb no vI vR I R O h1 (fun h hh => h5 h hh) (fun h hh => h6 h hh) h2.2.2
/-- A new book. -/
theorem BK.start {B : Nat} {w : World} {kb : Nat} {O : List OV} (hb : Blk w kb (bookCs 0 (.slice none 0 0) (.slice none 0 0)) 45) (h : OWN B w O) (hk : ∀ o ∈ O, bk o.v ≠ some kb) (hB : B ≤ kb) : BK B kb w 0 O := by
  have hn : bk (.slice none 0 0) = none := rfl
  refine ⟨0, .slice none 0 0, .slice none 0 0, [], [], ⟨hb, ?_, fun o ho => ?_⟩, ⟨by omega, by omega, hB⟩, Nat.le_refl _, Nat.le_refl _, fun _ h => (by cases h), fun _ h => (by cases h)⟩
  · exact (h.add (o := ovH (.slice none 0 0) []) (Row.nil _ _ _ _) (fun a ha => Dj.of_none hn)).add (o := ovI (.slice none 0 0) []) (Row.nil _ _ _ _) (fun a ha => Dj.of_none hn)
  · rcases List.mem_cons.1 ho with rfl | ho
    · show bk (.slice none 0 0) ≠ _; rw [hn]; simp
    · rcases List.mem_cons.1 ho with rfl | ho
      · show bk (.slice none 0 0) ≠ _; rw [hn]; simp
      · exact hk o (by simpa using ho)

end Go.Proofs.YtccmicegihlfbaaGreatDoor

/- What a law holds when it asks the book: rows in the order of their making, and the variables' boxes. -/
namespace Go.Proofs.YtccmicegihlfbaaGreatDoor
open Go.RowKit
/-- Rows that are held, all in blocks from H on. -/
def OWF (B : Nat) (w : World) (H : Nat) (L : List OV) : Prop := OWN B w L ∧ ∀ a ∈ L, ∀ g, bk a.v = some g → H ≤ g
theorem OWF.nil (B : Nat) (w : World) (H : Nat) : OWF B w H [] := ⟨OWN.nil B w, fun a h => by cases h⟩
theorem OWF.cons {B H lo hi : Nat} {w : World} {L : List OV} {o : OV} (h : OWF B w H L) (hok : o.ok B w) (hk : ∀ g, bk o.v = some g → lo ≤ g ∧ g < hi) (hH : hi ≤ H) (hl : lo ≤ hi) : OWF B w lo (o :: L) := by
  refine ⟨h.1.add hok (fun a ha => Dj.lt (fun g hg => (hk g hg).2) (fun g hg => Nat.le_trans hH (h.2 a ha g hg))), fun a ha g hg => ?_⟩
  rcases List.mem_cons.1 ha with rfl | ha
  · exact (hk g hg).1
  · have := h.2 a ha g hg; omega
theorem perm_unzip (ps : List (OV × OV)) : (ps.flatMap fun p => [p.1, p.2]).Perm (ps.map (·.1) ++ ps.map (·.2)) := by
  induction ps with
  | nil => exact List.Perm.refl _
  | cons p ps ih =>
    simp only [List.flatMap_cons, List.map_cons, List.cons_append, List.nil_append]
    refine List.Perm.cons _ ((List.Perm.cons _ ih).trans ?_)
    exact List.perm_middle.symm
theorem box_bk {g : Nat} {e : TypeId} {cs : List Value} : ∀ k, bk (ovB g e cs).v = some k → g ≤ k ∧ k < g + 1 := fun k hk => by
  have := bk_le hk
  omega
end Go.Proofs.YtccmicegihlfbaaGreatDoor

/- The rows' frame: arguments that are opened; that read again behind the call as they did. -/
namespace Go.Proofs.YtccmicegihlfbaaGreatDoor
open Go.ChangeShapes Go.WideShapes Go.ChangeAt Go.RowKit Go.Deep

/-! ### Arguments read again -/
def InSome (P : Program) (t : TypeId) : Prop := ∃ t0, P.readableRec t0 = true ∧ InBook P t0 t
theorem kids_some {P : Program} (hl : laidOutB P = true) : Kids P (InSome P) := by
  refine ⟨?_, ?_, ?_, ?_, ?_⟩
  · rintro t e ⟨t0, hr, hi⟩ hu; exact ⟨t0, hr, (kids_book hl hr).pointer hi hu⟩
  · rintro t e ⟨t0, hr, hi⟩ hu; exact ⟨t0, hr, (kids_book hl hr).slice hi hu⟩
  · rintro t e n ⟨t0, hr, hi⟩ hu; exact ⟨⟨t0, hr, ((kids_book hl hr).array hi hu).1⟩, ((kids_book hl hr).array hi hu).2⟩
  · rintro t fs ⟨t0, hr, hi⟩ hu; exact ⟨fun f hf => ⟨t0, hr, ((kids_book hl hr).struct hi hu).1 f hf⟩, ((kids_book hl hr).struct hi hu).2⟩
  · rintro t k e ⟨t0, hr, hi⟩ hu; exact ⟨t0, hr, (kids_book hl hr).map hi hu⟩
section
variable {H : Type} {enc : TypeId × Value → H} {P : Program} {W W' : World}
theorem same_below (hB : Below W.heap.size W W') {q : MemPlace} (hq : q.block < W.heap.size) : W.sameAt W' q := by
  cases q with
  | cell b off => exact World.cell?_of_block (hB.block b hq)
  | map b => exact hB.block b hq
theorem trod_again (hl : laidOutB P = true) (hz : ∀ t e, t < P.types.size → P.underlying t = some (.slice e) → 0 < P.cellsOf e) (hB : Below W.heap.size W W') {t : TypeId} (ht : InSome P t) {v : Value} {d : DataW H} {p : List MemPlace}
    (h : DataW.Trod enc P W 0 (fun _ => true) true t v d p) (hlt : ∀ q ∈ p, q.block < W.heap.size) {sp : Nat → Bool} (hs : ∀ q ∈ p, sp q.block = true) : DataW.Trod enc P W' 0 sp true t v d p := by
  obtain ⟨n, hn⟩ := h
  refine DataW.Trod.respare (kids_some hl) (fun t e ht hu => ?_) ht ⟨n, DataW.trod_carry n _ _ _ hn (fun q hq => same_below hB (hlt q hq))⟩ hs
  obtain ⟨t0, hr, hi⟩ := ht
  exact hz t e hi.1 hu
theorem trodAll_again (hl : laidOutB P = true) (hz : ∀ t e, t < P.types.size → P.underlying t = some (.slice e) → 0 < P.cellsOf e) (hB : Below W.heap.size W W') : ∀ {ts : List TypeId} {vs : List Value} {ds : List (DataW H)} {p : List MemPlace}, (∀ t ∈ ts, InSome P t) →
    DataW.TrodAll enc P W 0 (fun _ => true) true ts vs ds p → (∀ q ∈ p, q.block < W.heap.size) → ∀ {sp : Nat → Bool}, (∀ q ∈ p, sp q.block = true) → DataW.TrodAll enc P W' 0 sp true ts vs ds p
  | [], _, _, _, _, h, _, _, _ => by obtain ⟨rfl, rfl, rfl⟩ := trodAll_nil h; rfl
  | _ :: _, [], _, _, _, h, _, _, _ => by simp [DataW.TrodAll] at h
  | _ :: _, _ :: _, [], _, _, h, _, _, _ => by simp [DataW.TrodAll] at h
  | _ :: _, _ :: _, _ :: _, _, hT, ⟨p, q, h1, h2, e⟩, hlt, _, hs => by
    subst e
    exact ⟨p, q, trod_again hl hz hB (hT _ (List.mem_cons.2 (.inl rfl))) h1 (fun x hx => hlt x (List.mem_append_left _ hx)) (fun x hx => hs x (List.mem_append_left _ hx)),
      trodAll_again hl hz hB (fun t ht => hT t (List.mem_cons.2 (.inr ht))) h2 (fun x hx => hlt x (List.mem_append_right _ hx)) (fun x hx => hs x (List.mem_append_right _ hx)), rfl⟩
/-- True; the arguments read as they did. -/
theorem post_true {f : Func} {s : ChangeSpec} {args : Array Value} {ds : List (DataW H)} {p : List MemPlace} {t : TypeId} (hl : laidOutB P = true) (hz : ∀ t e, t < P.types.size → P.underlying t = some (.slice e) → 0 < P.cellsOf e)
    (hW : DataW.Whole enc P f.params.toList s.vars false W args.toList ds [] p) (hv : s.vars = []) (hspec : s.fn H (ds ++ []) = { results := [.lit (.bool true)], args := ds }) (hf : f.resultTypes = #[t]) (ht : P.underlying t = some .bool)
    (hT : ∀ u ∈ f.params.toList, InSome P u) (hB : Below W.heap.size W W') : s.post enc P f false true false false W args (.bool true) W' := by
  have hlt := hW.lt
  have hW' := hW
  obtain ⟨a, b, h1, h2, rfl, hfz, hnd⟩ := hW
  rw [hv] at h2
  obtain ⟨-, rfl⟩ := trodVars_none h2
  rw [List.append_nil] at hlt hW'
  refine ⟨ds, [], _, [], a, [], hW', ?_, ?_, ?_, hB.frame _, fun h => by cases h⟩
  · rw [hspec, hf]; exact trodAll_mk1 (shut_bool ht true)
  · rw [hspec]; exact trodAll_again hl hz hB hT h1 hlt (fun q hq => by simpa using hlt q hq)
  · rw [hspec, hv]; rfl

/-! ### Arguments opened -/
theorem rn_of_trod {n : Nat} {t e : TypeId} {base : Nat} {sp : Nat → Bool} {held : Bool} {v : Value} {x : DataW H × List MemPlace} (ht : P.underlying t = some (.slice e)) (he : P.underlying e = some (.int .u32)) (hc : P.cellsOf e = 1)
    (h : DataW.trod enc P W base sp held n t [v] = some x) : ∃ l, RN 0 0 W v l := by
  rcases open_slice1 ht hc h with ⟨h0, _⟩ | ⟨a, len, cap, m, k, V, D, Pl, h0, hb, hle, hm, hmm, _, hV⟩
  · simp only [List.cons.injEq, and_true] at h0
    subst h0
    exact ⟨[], RN.nil _ _ _⟩
  · simp only [List.cons.injEq, and_true] at h0
    subst h0
    have hlm : len ≤ m := by rw [hmm]; split <;> omega
    have key : ∀ i, i < len → ∃ z : Int, V i = .int .u32 z ∧ 0 ≤ z ∧ z < 4294967296 := fun i hi => by
      obtain ⟨_, h2⟩ := hV i (by omega)
      obtain ⟨z, hz, _, hw⟩ := DataW.trod_int he h2
      simp only [List.cons.injEq, and_true] at hz
      refine ⟨z, hz, ?_⟩
      have hw' : 0 ≤ z ∧ z ≤ 4294967295 := by simpa [Lit.wf, IntKind.min, IntKind.max, IntKind.signed, IntKind.bits] using hw
      omega
    have hz : ∀ i, i < len → V i = .int .u32 (((List.range len).map fun i => match V i with | .int _ z => z | _ => 0).getD i 0) := fun i hi => by
      obtain ⟨z, h1, _⟩ := key i hi
      rw [List.getD_eq_getElem?_getD]
      simp [hi, h1]
    refine ⟨(List.range len).map fun i => match V i with | .int _ z => z | _ => 0, ?_, some a, cap, by simp, by simpa using hle, by simp only [maxLen] at hm; omega, fun j hj => ?_⟩
    · intro z hz
      obtain ⟨i, hi, rfl⟩ := List.mem_map.1 hz
      obtain ⟨z, h1, h2⟩ := key i (List.mem_range.1 hi)
      rw [h1]
      exact h2
    · simp only [List.length_map, List.length_range] at hj
      refine ⟨a, rfl, by omega, ?_⟩
      rw [(hV j (by omega)).1, hz j hj]
end
theorem laid_ : laidOutB Tryz.prog = true := by kernel_rfl
theorem full_ : ∀ t e, t < Tryz.prog.types.size → Tryz.prog.underlying t = some (.slice e) → 0 < Tryz.prog.cellsOf e := slices_full_of _ (by kernel_rfl)
theorem some_of {t : TypeId} (h : Tryz.prog.readableRec t = true) (h2 : t < Tryz.prog.types.size) : InSome Tryz.prog t := ⟨t, h, h2, book_self t⟩
section
variable {H : Type} {enc : TypeId × Value → H} {W : World} {n base : Nat} {sp : Nat → Bool} {held : Bool} {cs : List Value} {x : DataW H × List MemPlace}
theorem cells_Int : Tryz.prog.cellsOf 25 = 2 := by kernel_rfl
theorem cells_Nat : Tryz.prog.cellsOf 23 = 1 := by kernel_rfl
theorem cells_u32 : Tryz.prog.cellsOf 106 = 1 := by kernel_rfl
theorem cells_bool : Tryz.prog.cellsOf 4 = 1 := by kernel_rfl
theorem nat_of_trod {v : Value} (h : DataW.trod enc Tryz.prog W base sp held n 23 [v] = some x) : ∃ l, RN 0 0 W v l :=
  rn_of_trod Tryz.underlying23 Tryz.underlying106 cells_u32 h
set_option maxRecDepth 100000 in
theorem int_of_trod (h : DataW.trod enc Tryz.prog W base sp held n 25 cs = some x) : ∃ s v l, cs = [.bool s, v] ∧ RN 0 0 W v l := by
  obtain ⟨y0, y1, k, _, hl, h0, h1⟩ := trod_struct2 Tryz.underlying25 h
  rw [cells_Int] at hl
  match cs, hl with
  | [c0, c1], _ =>
    simp only [cells_bool, cells_Nat, List.drop_zero, List.take_succ_cons, List.take_zero, List.drop_succ_cons] at h0 h1
    obtain ⟨s, hs, _⟩ := DataW.trod_bool Tryz.underlying4 h0
    obtain ⟨l, hl⟩ := nat_of_trod h1
    simp only [List.cons.injEq, and_true] at hs
    exact ⟨s, c1, l, by rw [hs], hl⟩
set_option maxRecDepth 100000 in
theorem int_arg {v : Value} {d : DataW H} {p : List MemPlace} (hval : Value.okWide Tryz.prog W .any 0 25 v) (h : DataW.Trod enc Tryz.prog W base sp held 25 v d p) : ∃ s u l, v = .agg #[.bool s, u] ∧ RN 0 0 W u l := by
  obtain ⟨cs, rfl, _⟩ := okWide_struct Tryz.underlying25 hval
  obtain ⟨k, hk⟩ := h
  obtain ⟨s, u, l, he, hr⟩ := int_of_trod hk
  refine ⟨s, u, l, ?_, hr⟩
  simp only [Value.cells] at he
  rw [show cs = #[.bool s, u] from Array.ext' he]
end
end Go.Proofs.YtccmicegihlfbaaGreatDoor
