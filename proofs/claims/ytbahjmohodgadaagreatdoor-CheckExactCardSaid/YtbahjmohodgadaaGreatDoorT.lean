/- Steps towards the statements of this seat; the conditions stand in each theorem. -/
import Derived.Test.YtbahjmohodgadaaGreatDoorSpecs
/- The terms. -/
set_option maxRecDepth 100000
set_option linter.unusedVariables false
namespace Go.Xt
def S_ring_Is (ρ : Fns) (v0 : PV) (Q : List PV → Prop) : Prop :=
 (OP (.bin .geq) [v0, I 0] fun v1 =>
 (ITE v1
 (OP (.bin .lss) [v0, I 8] fun v2 =>
 (Q [v2]))
 (Q [bb false])))
def S_ring_Node (ρ : Fns) (v0 : PV) (Q : List PV → Prop) : Prop :=
 (CALL ρ 108 [v0] 1 fun v1 =>
 (OP (.un .not) [v1] fun v2 =>
 (ITE v2
 (Q [I 0, I 1])
 (OP .pickA [v0, I 2342812313538366385, I 1863050908023769503, I 81111313352671826, I 2434324899588211290, I 2454816673080883147, I 1342378062264523301, I 820659310660760249, I 2006264061484817761] fun v3 =>
 (Q [v3, I 0])))))
def S_ring_Topic (ρ : Fns) (v0 : PV) (Q : List PV → Prop) : Prop :=
 (OP (.bin .geq) [v0, I 0] fun v1 =>
 (ITE v1
 (OP (.bin .lss) [v0, I 4] fun v2 =>
 (OP (.un .not) [v2] fun v3 =>
 (ITE v3
 (Q [I 0, I 1])
 (OP .pickA [v0, I 1462484242049070477, I 1775212608919665246, I 3535639072113518480, I 3725500155902745375] fun v4 =>
 (Q [v4, I 0])))))
 (OP (.un .not) [bb false] fun v2 =>
 (ITE v2
 (Q [I 0, I 1])
 (OP .pickA [v0, I 1462484242049070477, I 1775212608919665246, I 3535639072113518480, I 3725500155902745375] fun v3 =>
 (Q [v3, I 0]))))))
def S_key_Far (ρ : Fns) (v0 v1 : PV) (Q : List PV → Prop) : Prop :=
 (OP (.bin .sub) [v1, v0] fun v2 =>
 (OP (.bin .lss) [v2, I 0] fun v3 =>
 (ITE v3
 (OP (.bin .add) [v2, I 4611686018427387904] fun v4 =>
 (Q [v4]))
 (Q [v2]))))
def S_ref01_Node (ρ : Fns) (v0 : PV) (Q : List PV → Prop) : Prop :=
 (OP (.rows 1) [I 2342812313538366385, I 1863050908023769503, I 81111313352671826, I 2434324899588211290, I 2454816673080883147, I 1342378062264523301, I 820659310660760249, I 2006264061484817761] fun v1 =>
 (OP (.idx 1) [v1, v0] fun v2 =>
 (Q [v1.cellAt v2 0])))
def S_ref01_Topic (ρ : Fns) (v0 : PV) (Q : List PV → Prop) : Prop :=
 (OP (.rows 1) [I 1462484242049070477, I 1775212608919665246, I 3535639072113518480, I 3725500155902745375] fun v1 =>
 (OP (.idx 1) [v1, v0] fun v2 =>
 (Q [v1.cellAt v2 0])))
def S_ref01_Behind (ρ : Fns) (v0 v1 : PV) (Q : List PV → Prop) : Prop :=
 (OP (.bin .geq) [v1, v0] fun v2 =>
 (ITE v2
 (OP (.bin .sub) [v1, v0] fun v3 =>
 (Q [v3]))
 (OP (.bin .sub) [v0, v1] fun v3 =>
 (OP (.bin .sub) [I 4611686018427387904, v3] fun v4 =>
 (Q [v4])))))
def S_ring_Gap (ρ : Fns) (v0 v1 : PV) (Q : List PV → Prop) : Prop :=
 (CALL ρ 165 [v0] 2 fun v2 v3 =>
 (OP (.bin .neq) [v3, I 0] fun v4 =>
 (ITE v4
 (Q [I 0, v3])
 (CALL ρ 166 [v1] 2 fun v5 v6 =>
 (OP (.bin .neq) [v6, I 0] fun v7 =>
 (ITE v7
 (Q [I 0, v6])
 (CALL ρ 167 [v2, v5] 1 fun v8 =>
 (Q [v8, I 0]))))))))
def S_ring_Nearer (ρ : Fns) (v0 v1 v2 : PV) (Q : List PV → Prop) : Prop :=
 (CALL ρ 160 [v0, v1] 2 fun v3 v4 =>
 (CALL ρ 160 [v0, v2] 2 fun v5 v6 =>
 (OP (.bin .eql) [v4, I 0] fun v7 =>
 (ITE v7
 (OP (.bin .eql) [v6, I 0] fun v8 =>
 (ITE v8
 (OP (.bin .lss) [v3, v5] fun v9 =>
 (Q [v9]))
 (Q [bb false])))
 (Q [bb false])))))
def S_ref01_IsTopic (ρ : Fns) (v0 : PV) (Q : List PV → Prop) : Prop :=
 (CALL ρ 37 [v0, I 0, I 3] 1 fun v1 =>
 (Q [v1]))
def S_ref01_IsNode (ρ : Fns) (v0 : PV) (Q : List PV → Prop) : Prop :=
 (CALL ρ 37 [v0, I 0, I 7] 1 fun v1 =>
 (Q [v1]))
def S_ref01_Gap (ρ : Fns) (v0 v1 : PV) (Q : List PV → Prop) : Prop :=
 (CALL ρ 157 [v0] 1 fun v2 =>
 (CALL ρ 158 [v1] 1 fun v3 =>
 (CALL ρ 156 [v2, v3] 1 fun v4 =>
 (Q [v4]))))
def S_ref01_Nearer (ρ : Fns) (v0 v1 v2 : PV) (Q : List PV → Prop) : Prop :=
 (CALL ρ 127 [v0] 1 fun v3 =>
 (ITE v3
 (CALL ρ 43 [v1] 1 fun v4 =>
 (ITE v4
 (CALL ρ 43 [v2] 1 fun v5 =>
 (ITE v5
 (CALL ρ 143 [v0, v1] 1 fun v6 =>
 (CALL ρ 143 [v0, v2] 1 fun v7 =>
 (OP (.bin .lss) [v6, v7] fun v8 =>
 (Q [v8]))))
 (Q [bb false])))
 (Q [bb false])))
 (Q [bb false])))
def S_ring_All (ρ : Fns) (v0 : PV) (Q : List PV → Prop) : Prop :=
 (OP .len [v0] fun v1 =>
 (LOOP 1 [I 0] fun N0 v2 =>
 (OP (.bin .lss) [v2, v1] fun v3 =>
 (ITE v3
 (OP (.idx 1) [v0, v2] fun v4 =>
 (CALL ρ 108 [v0.cellAt v4 0] 1 fun v5 =>
 (OP (.un .not) [v5] fun v6 =>
 (ITE v6
 (OP (.bin .geq) [v2, I 0] fun v7 =>
 (OP (.un .not) [v7] fun v8 =>
 (Q [v8])))
 (OP (.bin .add) [v2, I 1] fun v7 =>
 (N0 [v7]))))))
 (OP (.bin .geq) [I (-1), I 0] fun v4 =>
 (OP (.un .not) [v4] fun v5 =>
 (Q [v5])))))))
def S_path_rises (ρ : Fns) (v0 v1 v2 : PV) (Q : List PV → Prop) : Prop :=
 (OP .len [v2] fun v3 =>
 (LOOP 2 [v1, I 0] fun N0 v4 v5 =>
 (OP (.bin .lss) [v5, v3] fun v6 =>
 (ITE v6
 (OP (.idx 1) [v2, v5] fun v7 =>
 (CALL ρ 159 [v0, v2.cellAt v7 0, v4] 1 fun v8 =>
 (OP (.un .not) [v8] fun v9 =>
 (ITE v9
 (Q [bb false])
 (OP (.bin .add) [v5, I 1] fun v10 =>
 (N0 [v2.cellAt v7 0, v10]))))))
 (Q [bb true])))))
def S_path_Check (ρ : Fns) (v0 v1 v2 v3 : PV) (Q : List PV → Prop) : Prop :=
 (CALL ρ 160 [v0, v1] 2 fun v4 v5 =>
 (SUB 1 (fun R =>
 (OP (.bin .neq) [v5, I 0] fun v6 =>
 (ITE v6
 (R [bb true])
 (OP (.bin .lss) [v3, I 1] fun v7 =>
 (ITE v7
 (R [bb true])
 (OP (.bin .gtr) [v3, I 8] fun v8 =>
 (ITE v8
 (R [bb true])
 (CALL ρ 76 [v2] 1 fun v9 =>
 (OP (.un .not) [v9] fun v10 =>
 (R [v10])))))))))) fun v6 =>
 (ITE v6
 (Q [I 1])
 (OP .len [v2] fun v7 =>
 (OP (.bin .gtr) [v7, v3] fun v8 =>
 (ITE v8
 (Q [I 12])
 (CALL ρ 161 [v0, v1, v2] 1 fun v9 =>
 (OP (.un .not) [v9] fun v10 =>
 (ITE v10
 (Q [I 1])
 (Q [I 0]))))))))))
def S_path_parent (ρ : Fns) (v0 v1 : PV) (Q : List PV → Prop) : Prop :=
 (OP .len [v0] fun v2 =>
 (OP (.bin .geq) [v1, v2] fun v3 =>
 (ITE v3
 (Q [I (-1)])
 (OP (.idx 1) [v0, v1] fun v4 =>
 (OP .len [v0.cellAt v4 0] fun v5 =>
 (OP (.bin .eql) [v5, I 0] fun v6 =>
 (ITE v6
 (Q [I (-1)])
 (OP (.idx 1) [v0, v1] fun v7 =>
 (OP (.idx 1) [v0.cellAt v7 0, I 0] fun v8 =>
 (Q [(v0.cellAt v7 0).cellAt v8 0]))))))))))
def S_path_Whole (ρ : Fns) (v0 v1 : PV) (Q : List PV → Prop) : Prop :=
 (SUB 1 (fun R =>
 (OP .len [v1] fun v2 =>
 (OP (.bin .gtr) [v2, I 8] fun v3 =>
 (ITE v3
 (R [bb true])
 (OP .len [v1] fun v4 =>
 (LOOP 1 [I 0] fun N0 v5 =>
 (OP (.bin .lss) [v5, v4] fun v6 =>
 (ITE v6
 (OP (.idx 1) [v1, v5] fun v7 =>
 (CALL ρ 76 [v1.cellAt v7 0] 1 fun v8 =>
 (OP (.un .not) [v8] fun v9 =>
 (ITE v9
 (OP (.bin .geq) [v5, I 0] fun v10 =>
 (OP .sel [v3, bb true, v10] fun v11 =>
 (R [v11])))
 (OP (.bin .add) [v5, I 1] fun v10 =>
 (N0 [v10]))))))
 (OP (.bin .geq) [I (-1), I 0] fun v7 =>
 (OP .sel [v3, bb true, v7] fun v8 =>
 (R [v8]))))))))))) fun v2 =>
 (ITE v2
 (Q [bb false])
 (OP .len [v1] fun v3 =>
 (LOOP 1 [I 0] fun N0 v4 =>
 (OP (.bin .lss) [v4, v3] fun v5 =>
 (ITE v5
 (CALL ρ 77 [v1, v4] 1 fun v6 =>
 (LOOP 2 [v6, I 0] fun N1 v7 v8 =>
 (OP (.bin .lss) [v8, I 8] fun v9 =>
 (ITE v9
 (OP (.bin .geq) [v7, I 0] fun v10 =>
 (ITE v10
 (CALL ρ 77 [v1, v7] 1 fun v11 =>
 (OP (.bin .add) [v8, I 1] fun v12 =>
 (N1 [v11, v12])))
 (OP (.bin .add) [v8, I 1] fun v11 =>
 (N1 [v7, v11]))))
 (OP (.bin .geq) [v7, I 0] fun v10 =>
 (ITE v10
 (Q [bb false])
 (OP (.bin .add) [v4, I 1] fun v11 =>
 (N0 [v11]))))))))
 (Q [bb true])))))))
def S_bkeep_TwinInts (ρ : Fns) (v0 : PV) (Q : List PV → Prop) : Prop :=
 (OP (.app 1 8) [.list [], v0] fun v1 =>
 (Q [v1]))
def S_bkeep_Ints (ρ : Fns) (v0 v1 : PV) (Q : List PV → Prop) : Prop :=
 (OP .len [v0] fun v2 =>
 (OP .len [v1] fun v3 =>
 (OP (.bin .neq) [v2, v3] fun v4 =>
 (ITE v4
 (Q [bb false])
 (LOOP 1 [I 0] fun N0 v5 =>
 (OP .len [v0] fun v6 =>
 (OP (.bin .lss) [v5, v6] fun v7 =>
 (ITE v7
 (OP (.idx 1) [v0, v5] fun v8 =>
 (OP (.idx 1) [v1, v5] fun v9 =>
 (OP (.bin .neq) [v0.cellAt v8 0, v1.cellAt v9 0] fun v10 =>
 (ITE v10
 (Q [bb false])
 (OP (.bin .add) [v5, I 1] fun v11 =>
 (N0 [v11]))))))
 (Q [bb true])))))))))
def S_ref10_Path (ρ : Fns) (v0 v1 v2 v3 : PV) (Q : List PV → Prop) : Prop :=
 (LOOP 1 [I 0] fun N0 v4 =>
 (OP .len [v2] fun v5 =>
 (OP (.bin .lss) [v4, v5] fun v6 =>
 (ITE v6
 (OP (.idx 1) [v2, v4] fun v7 =>
 (CALL ρ 43 [v2.cellAt v7 0] 1 fun v8 =>
 (OP (.un .not) [v8] fun v9 =>
 (ITE v9
 (Q [I 1])
 (OP (.bin .add) [v4, I 1] fun v10 =>
 (N0 [v10]))))))
 (OP .len [v2] fun v7 =>
 (OP (.bin .gtr) [v7, v3] fun v8 =>
 (ITE v8
 (Q [I 12])
 (LOOP 2 [v1, I 0] fun N1 v9 v10 =>
 (OP .len [v2] fun v11 =>
 (OP (.bin .lss) [v10, v11] fun v12 =>
 (ITE v12
 (OP (.idx 1) [v2, v10] fun v13 =>
 (CALL ρ 126 [v0, v2.cellAt v13 0, v9] 1 fun v14 =>
 (OP (.un .not) [v14] fun v15 =>
 (ITE v15
 (Q [I 1])
 (OP (.idx 1) [v2, v10] fun v16 =>
 (OP (.bin .add) [v10, I 1] fun v17 =>
 (N1 [v2.cellAt v16 0, v17])))))))
 (Q [I 0]))))))))))))
def S_ref10_Whole (ρ : Fns) (v0 : PV) (Q : List PV → Prop) : Prop :=
 (OP .len [v0] fun v1 =>
 (OP (.bin .gtr) [v1, I 8] fun v2 =>
 (ITE v2
 (Q [bb false])
 (LOOP 1 [I 0] fun N0 v3 =>
 (OP .len [v0] fun v4 =>
 (OP (.bin .lss) [v3, v4] fun v5 =>
 (ITE v5
 (LOOP 1 [I 0] fun N1 v6 =>
 (OP (.idx 1) [v0, v3] fun v7 =>
 (OP .len [v0.cellAt v7 0] fun v8 =>
 (OP (.bin .lss) [v6, v8] fun v9 =>
 (ITE v9
 (OP (.idx 1) [v0, v3] fun v10 =>
 (OP (.idx 1) [v0.cellAt v10 0, v6] fun v11 =>
 (CALL ρ 43 [(v0.cellAt v10 0).cellAt v11 0] 1 fun v12 =>
 (OP (.un .not) [v12] fun v13 =>
 (ITE v13
 (Q [bb false])
 (OP (.bin .add) [v6, I 1] fun v14 =>
 (N1 [v14])))))))
 (OP (.bin .add) [v3, I 1] fun v10 =>
 (N0 [v10])))))))
 (LOOP 1 [I 0] fun N1 v6 =>
 (OP .len [v0] fun v7 =>
 (OP (.bin .lss) [v6, v7] fun v8 =>
 (ITE v8
 (LOOP 2 [v6, I 0] fun N2 v9 v10 =>
 (SUB 1 (fun R =>
 (OP .len [v0] fun v11 =>
 (OP (.bin .lss) [v9, v11] fun v12 =>
 (ITE v12
 (OP (.idx 1) [v0, v9] fun v13 =>
 (OP .len [v0.cellAt v13 0] fun v14 =>
 (OP (.bin .gtr) [v14, I 0] fun v15 =>
 (R [v15]))))
 (R [bb false]))))) fun v11 =>
 (ITE v11
 (OP .len [v0] fun v12 =>
 (OP (.bin .gtr) [v10, v12] fun v13 =>
 (ITE v13
 (Q [bb false])
 (OP (.idx 1) [v0, v9] fun v14 =>
 (OP (.idx 1) [v0.cellAt v14 0, I 0] fun v15 =>
 (OP (.bin .add) [v10, I 1] fun v16 =>
 (N2 [(v0.cellAt v14 0).cellAt v15 0, v16])))))))
 (OP (.bin .add) [v6, I 1] fun v12 =>
 (N1 [v12])))))
 (Q [bb true]))))))))))))
def S_script_config (ρ : Fns) (v0 v1 v2 v3 v4 v5 v6 : PV) (Q : List PV → Prop) : Prop :=
 (CALL ρ 112 [(.str (ByteArray.mk (List.toArray [110, 111, 100, 101, 115]))), v0, I 1, I 8, I 13] 1 fun v7 =>
 (CALL ρ 112 [(.str (ByteArray.mk (List.toArray [116, 111, 112, 105, 99, 115]))), v1, I 1, I 4, I 13] 1 fun v8 =>
 (CALL ρ 112 [(.str (ByteArray.mk (List.toArray [107, 105, 100, 115]))), v2, I 1, I 4, I 13] 1 fun v9 =>
 (CALL ρ 112 [(.str (ByteArray.mk (List.toArray [100, 101, 112, 116, 104]))), v3, I 1, I 8, I 13] 1 fun v10 =>
 (CALL ρ 112 [(.str (ByteArray.mk (List.toArray [107, 101, 101, 112]))), v4, I 1, I 16, I 13] 1 fun v11 =>
 (CALL ρ 112 [(.str (ByteArray.mk (List.toArray [119, 105, 110, 100, 111, 119]))), v5, I 1, I 16, I 13] 1 fun v12 =>
 (CALL ρ 112 [(.str (ByteArray.mk (List.toArray [113, 117, 101, 117, 101]))), v6, I 2, I 32, I 13] 1 fun v13 =>
 (OP (.rows 1) [v7, v8, v9, v10, v11, v12, v13] fun v14 =>
 (CALL ρ 111 [v14] 1 fun v15 =>
 (Q [v15]))))))))))
def S_script_Config (ρ : Fns) (v0 v1 v2 v3 v4 v5 v6 : PV) (Q : List PV → Prop) : Prop :=
 (CALL ρ 79 [v0, v1, v2, v3, v4, v5, v6] 1 fun v7 =>
 (CALL ρ 78 [v7] 1 fun v8 =>
 (Q [v8])))
def S_ref01_In (ρ : Fns) (v0 v1 v2 : PV) (Q : List PV → Prop) : Prop :=
 (OP (.bin .geq) [v0, v1] fun v3 =>
 (ITE v3
 (OP (.bin .leq) [v0, v2] fun v4 =>
 (Q [v4]))
 (Q [bb false])))
def S_ref01_Config (ρ : Fns) (v0 v1 v2 v3 v4 v5 v6 : PV) (Q : List PV → Prop) : Prop :=
 (CALL ρ 37 [v0, I 1, I 8] 1 fun v7 =>
 (ITE v7
 (CALL ρ 37 [v1, I 1, I 4] 1 fun v8 =>
 (ITE v8
 (CALL ρ 37 [v2, I 1, I 4] 1 fun v9 =>
 (ITE v9
 (CALL ρ 37 [v3, I 1, I 8] 1 fun v10 =>
 (ITE v10
 (CALL ρ 37 [v4, I 1, I 16] 1 fun v11 =>
 (ITE v11
 (CALL ρ 37 [v5, I 1, I 16] 1 fun v12 =>
 (ITE v12
 (CALL ρ 37 [v6, I 2, I 32] 1 fun v13 =>
 (Q [v13]))
 (Q [bb false])))
 (Q [bb false])))
 (Q [bb false])))
 (Q [bb false])))
 (Q [bb false])))
 (Q [bb false])))
def S_epoch_Check (ρ : Fns) (v0 : PV) (Q : List PV → Prop) : Prop :=
 (OP (.bin .lss) [v0, I 1] fun v1 =>
 (ITE v1
 (Q [I 1])
 (OP (.bin .gtr) [v0, I 1073741824] fun v2 =>
 (ITE v2
 (Q [I 1])
 (OP (.bin .rem) [v0, I 16] fun v3 =>
 (CALL ρ 108 [v3] 1 fun v4 =>
 (OP (.un .not) [v4] fun v5 =>
 (ITE v5
 (Q [I 1])
 (Q [I 0])))))))))
def S_epoch_Who (ρ : Fns) (v0 : PV) (Q : List PV → Prop) : Prop :=
 (CALL ρ 92 [v0] 1 fun v1 =>
 (OP (.bin .neq) [v1, I 0] fun v2 =>
 (ITE v2
 (Q [I 0, v1])
 (OP (.bin .rem) [v0, I 16] fun v3 =>
 (Q [v3, I 0])))))
def S_msg_in (ρ : Fns) (v0 v1 v2 : PV) (Q : List PV → Prop) : Prop :=
 (OP (.bin .geq) [v0, v1] fun v3 =>
 (ITE v3
 (OP (.bin .leq) [v0, v2] fun v4 =>
 (Q [v4]))
 (Q [bb false])))
def S_msg_Counted (ρ : Fns) (v0 : PV) (Q : List PV → Prop) : Prop :=
 (CALL ρ 124 [v0, I 1, I 1073741824] 1 fun v1 =>
 (Q [v1]))
def S_msg_Value (ρ : Fns) (v0 : PV) (Q : List PV → Prop) : Prop :=
 (CALL ρ 124 [v0, I 0, I 2147483647] 1 fun v1 =>
 (Q [v1]))
def S_cast_in (ρ : Fns) (v0 v1 v2 : PV) (Q : List PV → Prop) : Prop :=
 (OP (.bin .geq) [v0, v1] fun v3 =>
 (ITE v3
 (OP (.bin .leq) [v0, v2] fun v4 =>
 (Q [v4]))
 (Q [bb false])))
def S_ref19_in (ρ : Fns) (v0 v1 v2 : PV) (Q : List PV → Prop) : Prop :=
 (OP (.bin .geq) [v0, v1] fun v3 =>
 (ITE v3
 (OP (.bin .leq) [v0, v2] fun v4 =>
 (Q [v4]))
 (Q [bb false])))
def S_ref10_in (ρ : Fns) (v0 v1 v2 : PV) (Q : List PV → Prop) : Prop :=
 (OP (.bin .geq) [v0, v1] fun v3 =>
 (ITE v3
 (OP (.bin .leq) [v0, v2] fun v4 =>
 (Q [v4]))
 (Q [bb false])))
def S_ref01_Value (ρ : Fns) (v0 : PV) (Q : List PV → Prop) : Prop :=
 (CALL ρ 37 [v0, I 0, I 2147483647] 1 fun v1 =>
 (Q [v1]))
def S_ref10_count (ρ : Fns) (v0 : PV) (Q : List PV → Prop) : Prop :=
 (CALL ρ 98 [v0, I 1, I 1073741824] 1 fun v1 =>
 (Q [v1]))
def S_ref10_Epoch (ρ : Fns) (v0 : PV) (Q : List PV → Prop) : Prop :=
 (CALL ρ 98 [v0, I 1, I 1073741824] 1 fun v1 =>
 (ITE v1
 (OP (.bin .rem) [v0, I 16] fun v2 =>
 (OP (.bin .lss) [v2, I 8] fun v3 =>
 (Q [v3])))
 (Q [bb false])))
def S_view_right (ρ : Fns) (v0 v1 : PV) (Q : List PV → Prop) : Prop :=
 (OP (.bin .geq) [v0, I 0] fun v2 =>
 (ITE v2
 (OP (.bin .leq) [v0, I 1073741824] fun v3 =>
 (ITE v3
 (OP (.bin .geq) [v1, I 0] fun v4 =>
 (ITE v4
 (OP (.bin .leq) [v1, I 1000] fun v5 =>
 (Q [v5]))
 (Q [bb false])))
 (Q [bb false])))
 (Q [bb false])))
def S_view_Check (ρ : Fns) (v0 : PV) (Q : List PV → Prop) : Prop :=
 (OP .len [v0] fun v1 =>
 (OP (.bin .lss) [v1, I 1] fun v2 =>
 (ITE v2
 (Q [I 1])
 (OP .len [v0] fun v3 =>
 (OP (.bin .gtr) [v3, I 8] fun v4 =>
 (ITE v4
 (Q [I 1])
 (OP .len [v0] fun v5 =>
 (LOOP 1 [I 0] fun N0 v6 =>
 (OP (.bin .lss) [v6, v5] fun v7 =>
 (ITE v7
 (OP (.idx 2) [v0, v6] fun v8 =>
 (CALL ρ 140 [v0.cellAt v8 0, v0.cellAt v8 1] 1 fun v9 =>
 (OP (.un .not) [v9] fun v10 =>
 (ITE v10
 (OP (.bin .geq) [v6, I 0] fun v11 =>
 (OP .sel [v4, bb true, v11] fun v12 =>
 (ITE v12
 (Q [I 1])
 (Q [I 0]))))
 (OP (.bin .add) [v6, I 1] fun v11 =>
 (N0 [v11]))))))
 (OP (.bin .geq) [I (-1), I 0] fun v8 =>
 (OP .sel [v4, bb true, v8] fun v9 =>
 (ITE v9
 (Q [I 1])
 (Q [I 0]))))))))))))))
def S_ref10_Peers (ρ : Fns) (v0 : PV) (Q : List PV → Prop) : Prop :=
 (OP .len [v0] fun v1 =>
 (CALL ρ 98 [v1, I 1, I 8] 1 fun v2 =>
 (OP (.un .not) [v2] fun v3 =>
 (ITE v3
 (Q [bb false])
 (LOOP 1 [I 0] fun N0 v4 =>
 (OP .len [v0] fun v5 =>
 (OP (.bin .lss) [v4, v5] fun v6 =>
 (ITE v6
 (OP (.idx 2) [v0, v4] fun v7 =>
 (CALL ρ 98 [v0.cellAt v7 0, I 0, I 1073741824] 1 fun v8 =>
 (OP (.un .not) [v8] fun v9 =>
 (ITE v9
 (Q [bb false])
 (OP (.idx 2) [v0, v4] fun v10 =>
 (CALL ρ 98 [v0.cellAt v10 1, I 0, I 1000] 1 fun v11 =>
 (OP (.un .not) [v11] fun v12 =>
 (ITE v12
 (Q [bb false])
 (OP (.bin .add) [v4, I 1] fun v13 =>
 (N0 [v13]))))))))))
 (Q [bb true])))))))))
def S_kids_right (ρ : Fns) (v0 v1 v2 v3 v4 : PV) (Q : List PV → Prop) : Prop :=
 (CALL ρ 159 [v0, v1, v2] 1 fun v5 =>
 (ITE v5
 (CALL ρ 91 [v3] 1 fun v6 =>
 (ITE v6
 (OP (.bin .geq) [v4, I 0] fun v7 =>
 (ITE v7
 (OP (.bin .leq) [v4, I 6] fun v8 =>
 (Q [v8]))
 (Q [bb false])))
 (Q [bb false])))
 (Q [bb false])))
def S_kids_Check (ρ : Fns) (v0 v1 v2 v3 : PV) (Q : List PV → Prop) : Prop :=
 (CALL ρ 160 [v0, v1] 2 fun v4 v5 =>
 (SUB 1 (fun R =>
 (OP (.bin .neq) [v5, I 0] fun v6 =>
 (ITE v6
 (R [bb true])
 (OP (.bin .lss) [v2, I 1] fun v7 =>
 (ITE v7
 (R [bb true])
 (OP (.bin .gtr) [v2, I 4] fun v8 =>
 (ITE v8
 (R [bb true])
 (OP .len [v3] fun v9 =>
 (OP (.bin .gtr) [v9, v2] fun v10 =>
 (R [v10])))))))))) fun v6 =>
 (ITE v6
 (Q [I 1])
 (OP .len [v3] fun v7 =>
 (LOOP 1 [I 0] fun N0 v8 =>
 (OP (.bin .lss) [v8, v7] fun v9 =>
 (ITE v9
 (OP (.idx 3) [v3, v8] fun v10 =>
 (CALL ρ 162 [v0, v1, v3.cellAt v10 0, v3.cellAt v10 1, v3.cellAt v10 2] 1 fun v11 =>
 (OP (.un .not) [v11] fun v12 =>
 (ITE v12
 (Q [I 1])
 (OP (.bin .gtr) [v8, I 0] fun v13 =>
 (ITE v13
 (OP (.bin .sub) [v8, I 1] fun v14 =>
 (OP (.idx 3) [v3, v14] fun v15 =>
 (CALL ρ 159 [v0, v3.cellAt v15 0, v3.cellAt v10 0] 1 fun v16 =>
 (OP (.un .not) [v16] fun v17 =>
 (ITE v17
 (Q [I 1])
 (OP (.bin .add) [v8, I 1] fun v18 =>
 (N0 [v18])))))))
 (OP (.bin .add) [v8, I 1] fun v14 =>
 (N0 [v14]))))))))
 (Q [I 0]))))))))
def S_ref10_Kids (ρ : Fns) (v0 v1 v2 v3 : PV) (Q : List PV → Prop) : Prop :=
 (SUB 1 (fun R =>
 (CALL ρ 127 [v0] 1 fun v4 =>
 (OP (.un .not) [v4] fun v5 =>
 (ITE v5
 (R [bb true])
 (CALL ρ 43 [v1] 1 fun v6 =>
 (OP (.un .not) [v6] fun v7 =>
 (ITE v7
 (R [bb true])
 (CALL ρ 98 [v2, I 1, I 4] 1 fun v8 =>
 (OP (.un .not) [v8] fun v9 =>
 (ITE v9
 (R [bb true])
 (OP .len [v3] fun v10 =>
 (OP (.bin .gtr) [v10, v2] fun v11 =>
 (R [v11]))))))))))))) fun v4 =>
 (ITE v4
 (Q [bb false])
 (LOOP 2 [v1, I 0] fun N0 v5 v6 =>
 (OP .len [v3] fun v7 =>
 (OP (.bin .lss) [v6, v7] fun v8 =>
 (ITE v8
 (OP (.idx 3) [v3, v6] fun v9 =>
 (CALL ρ 43 [v3.cellAt v9 0] 1 fun v10 =>
 (OP (.un .not) [v10] fun v11 =>
 (ITE v11
 (Q [bb false])
 (OP (.idx 3) [v3, v6] fun v12 =>
 (CALL ρ 126 [v0, v5, v3.cellAt v12 0] 1 fun v13 =>
 (OP (.un .not) [v13] fun v14 =>
 (ITE v14
 (Q [bb false])
 (OP (.idx 3) [v3, v6] fun v15 =>
 (CALL ρ 98 [v3.cellAt v15 1, I 1, I 1073741824] 1 fun v16 =>
 (OP (.un .not) [v16] fun v17 =>
 (ITE v17
 (Q [bb false])
 (OP (.idx 3) [v3, v6] fun v18 =>
 (CALL ρ 98 [v3.cellAt v18 2, I 0, I 6] 1 fun v19 =>
 (OP (.un .not) [v19] fun v20 =>
 (ITE v20
 (Q [bb false])
 (OP (.idx 3) [v3, v6] fun v21 =>
 (OP (.bin .add) [v6, I 1] fun v22 =>
 (N0 [v3.cellAt v21 0, v22])))))))))))))))))))
 (Q [bb true])))))))
def S_keep_right (ρ : Fns) (v0 v1 : PV) (Q : List PV → Prop) : Prop :=
 (OP .len [v0] fun v2 =>
 (LOOP 1 [I 0] fun N0 v3 =>
 (OP (.bin .lss) [v3, v2] fun v4 =>
 (ITE v4
 (OP (.idx 2) [v0, v3] fun v5 =>
 (OP (.bin .lss) [v0.cellAt v5 0, I 1] fun v6 =>
 (ITE v6
 (Q [bb false])
 (OP .len [v0] fun v7 =>
 (OP (.bin .sub) [v1, v7] fun v8 =>
 (OP (.bin .add) [v8, v3] fun v9 =>
 (OP (.bin .neq) [v0.cellAt v5 0, v9] fun v10 =>
 (ITE v10
 (Q [bb false])
 (CALL ρ 142 [v0.cellAt v5 1] 1 fun v11 =>
 (OP (.un .not) [v11] fun v12 =>
 (ITE v12
 (Q [bb false])
 (OP (.bin .add) [v3, I 1] fun v13 =>
 (N0 [v13])))))))))))))
 (Q [bb true])))))
def S_keep_Check (ρ : Fns) (v0 v1 v2 : PV) (Q : List PV → Prop) : Prop :=
 (CALL ρ 91 [v1] 1 fun v3 =>
 (OP (.un .not) [v3] fun v4 =>
 (ITE v4
 (Q [I 1])
 (OP (.bin .lss) [v2, I 1] fun v5 =>
 (ITE v5
 (Q [I 1])
 (OP (.bin .gtr) [v2, I 16] fun v6 =>
 (ITE v6
 (Q [I 1])
 (OP .len [v0] fun v7 =>
 (OP (.bin .gtr) [v7, v2] fun v8 =>
 (ITE v8
 (Q [I 1])
 (CALL ρ 176 [v0, v1] 1 fun v9 =>
 (OP (.un .not) [v9] fun v10 =>
 (ITE v10
 (Q [I 1])
 (Q [I 0]))))))))))))))
def S_ref10_Kept (ρ : Fns) (v0 v1 v2 : PV) (Q : List PV → Prop) : Prop :=
 (SUB 1 (fun R =>
 (CALL ρ 98 [v1, I 1, I 1073741824] 1 fun v3 =>
 (OP (.un .not) [v3] fun v4 =>
 (ITE v4
 (R [bb true])
 (CALL ρ 98 [v2, I 1, I 16] 1 fun v5 =>
 (OP (.un .not) [v5] fun v6 =>
 (ITE v6
 (R [bb true])
 (OP .len [v0] fun v7 =>
 (OP (.bin .gtr) [v7, v2] fun v8 =>
 (ITE v8
 (R [bb true])
 (OP .len [v0] fun v9 =>
 (OP (.bin .geq) [v9, v1] fun v10 =>
 (R [v10]))))))))))))) fun v3 =>
 (ITE v3
 (Q [bb false])
 (LOOP 1 [I 0] fun N0 v4 =>
 (OP .len [v0] fun v5 =>
 (OP (.bin .lss) [v4, v5] fun v6 =>
 (ITE v6
 (OP (.idx 2) [v0, v4] fun v7 =>
 (OP .len [v0] fun v8 =>
 (OP (.bin .sub) [v1, v8] fun v9 =>
 (OP (.bin .add) [v9, v4] fun v10 =>
 (OP (.bin .neq) [v0.cellAt v7 0, v10] fun v11 =>
 (ITE v11
 (Q [bb false])
 (OP (.idx 2) [v0, v4] fun v12 =>
 (CALL ρ 65 [v0.cellAt v12 1] 1 fun v13 =>
 (OP (.un .not) [v13] fun v14 =>
 (ITE v14
 (Q [bb false])
 (OP (.bin .add) [v4, I 1] fun v15 =>
 (N0 [v15]))))))))))))
 (Q [bb true])))))))
def S_ahead_fits (ρ : Fns) (v0 v1 v2 : PV) (Q : List PV → Prop) : Prop :=
 (OP (.bin .gtr) [v0, v1] fun v3 =>
 (ITE v3
 (OP (.bin .add) [v1, v2] fun v4 =>
 (OP (.bin .lss) [v0, v4] fun v5 =>
 (ITE v5
 (OP (.bin .lss) [v0, I 1073741824] fun v6 =>
 (Q [v6]))
 (Q [bb false]))))
 (Q [bb false])))
def S_ahead_Check (ρ : Fns) (v0 v1 v2 : PV) (Q : List PV → Prop) : Prop :=
 (SUB 1 (fun R =>
 (CALL ρ 91 [v1] 1 fun v3 =>
 (OP (.un .not) [v3] fun v4 =>
 (ITE v4
 (R [bb true])
 (OP (.bin .lss) [v2, I 1] fun v5 =>
 (ITE v5
 (R [bb true])
 (OP (.bin .gtr) [v2, I 16] fun v6 =>
 (R [v6])))))))) fun v3 =>
 (ITE v3
 (Q [I 1])
 (OP .len [v0] fun v4 =>
 (LOOP 1 [I 0] fun N0 v5 =>
 (OP (.bin .lss) [v5, v4] fun v6 =>
 (ITE v6
 (OP (.idx 2) [v0, v5] fun v7 =>
 (CALL ρ 177 [v0.cellAt v7 0, v1, v2] 1 fun v8 =>
 (OP (.un .not) [v8] fun v9 =>
 (ITE v9
 (Q [I 1])
 (CALL ρ 142 [v0.cellAt v7 1] 1 fun v10 =>
 (OP (.un .not) [v10] fun v11 =>
 (ITE v11
 (Q [I 1])
 (OP (.bin .gtr) [v5, I 0] fun v12 =>
 (ITE v12
 (OP (.bin .sub) [v5, I 1] fun v13 =>
 (OP (.idx 2) [v0, v13] fun v14 =>
 (OP (.bin .geq) [v0.cellAt v14 0, v0.cellAt v7 0] fun v15 =>
 (ITE v15
 (Q [I 1])
 (OP (.bin .add) [v5, I 1] fun v16 =>
 (N0 [v16]))))))
 (OP (.bin .add) [v5, I 1] fun v13 =>
 (N0 [v13])))))))))))
 (Q [I 0])))))))
def S_ref10_Ahead2 (ρ : Fns) (v0 v1 v2 : PV) (Q : List PV → Prop) : Prop :=
 (SUB 1 (fun R =>
 (CALL ρ 98 [v1, I 1, I 1073741824] 1 fun v3 =>
 (OP (.un .not) [v3] fun v4 =>
 (ITE v4
 (R [bb true])
 (CALL ρ 98 [v2, I 1, I 16] 1 fun v5 =>
 (OP (.un .not) [v5] fun v6 =>
 (R [v6]))))))) fun v3 =>
 (ITE v3
 (Q [bb false])
 (LOOP 1 [I 0] fun N0 v4 =>
 (OP .len [v0] fun v5 =>
 (OP (.bin .lss) [v4, v5] fun v6 =>
 (ITE v6
 (OP (.idx 2) [v0, v4] fun v7 =>
 (OP (.bin .leq) [v0.cellAt v7 0, v1] fun v8 =>
 (ITE v8
 (Q [bb false])
 (OP (.idx 2) [v0, v4] fun v9 =>
 (OP (.bin .add) [v1, v2] fun v10 =>
 (OP (.bin .geq) [v0.cellAt v9 0, v10] fun v11 =>
 (ITE v11
 (Q [bb false])
 (OP (.idx 2) [v0, v4] fun v12 =>
 (OP (.bin .geq) [v0.cellAt v12 0, I 1073741824] fun v13 =>
 (ITE v13
 (Q [bb false])
 (OP (.bin .gtr) [v4, I 0] fun v14 =>
 (ITE v14
 (OP (.idx 2) [v0, v4] fun v15 =>
 (OP (.bin .sub) [v4, I 1] fun v16 =>
 (OP (.idx 2) [v0, v16] fun v17 =>
 (OP (.bin .leq) [v0.cellAt v15 0, v0.cellAt v17 0] fun v18 =>
 (ITE v18
 (Q [bb false])
 (OP (.idx 2) [v0, v4] fun v19 =>
 (CALL ρ 65 [v0.cellAt v19 1] 1 fun v20 =>
 (OP (.un .not) [v20] fun v21 =>
 (ITE v21
 (Q [bb false])
 (OP (.bin .add) [v4, I 1] fun v22 =>
 (N0 [v22])))))))))))
 (OP (.idx 2) [v0, v4] fun v15 =>
 (CALL ρ 65 [v0.cellAt v15 1] 1 fun v16 =>
 (OP (.un .not) [v16] fun v17 =>
 (ITE v17
 (Q [bb false])
 (OP (.bin .add) [v4, I 1] fun v18 =>
 (N0 [v18]))))))))))))))))))
 (Q [bb true])))))))
def S_queue_Event (ρ : Fns) (v0 v1 v2 v3 v4 v5 : PV) (Q : List PV → Prop) : Prop :=
 (OP (.bin .eql) [v0, I 1] fun v6 =>
 (ITE v6
 (SUB 1 (fun R =>
 (CALL ρ 92 [v1] 1 fun v7 =>
 (OP (.bin .eql) [v7, I 0] fun v8 =>
 (ITE v8
 (CALL ρ 91 [v2] 1 fun v9 =>
 (R [v9]))
 (R [bb false]))))) fun v7 =>
 (ITE v7
 (CALL ρ 142 [v4] 1 fun v8 =>
 (OP (.un .not) [v8] fun v9 =>
 (ITE v9
 (Q [I 1])
 (OP (.eqs true [true, true, true, true, true, true]) [v0, I 0, I 0, v3, I 0, v5, v0, I 0, I 0, I 0, I 0, I 0] fun v10 =>
 (ITE v10
 (Q [I 1])
 (Q [I 0]))))))
 (OP (.un .not) [bb false] fun v8 =>
 (ITE v8
 (Q [I 1])
 (OP (.eqs true [true, true, true, true, true, true]) [v0, I 0, I 0, v3, I 0, v5, v0, I 0, I 0, I 0, I 0, I 0] fun v9 =>
 (ITE v9
 (Q [I 1])
 (Q [I 0])))))))
 (OP (.bin .eql) [v0, I 2] fun v7 =>
 (ITE v7
 (SUB 1 (fun R =>
 (CALL ρ 92 [v1] 1 fun v8 =>
 (OP (.bin .eql) [v8, I 0] fun v9 =>
 (ITE v9
 (CALL ρ 91 [v2] 1 fun v10 =>
 (R [v10]))
 (R [bb false]))))) fun v8 =>
 (ITE v8
 (OP (.bin .geq) [v3, v2] fun v9 =>
 (ITE v9
 (OP (.bin .leq) [v3, I 1073741824] fun v10 =>
 (OP (.un .not) [v10] fun v11 =>
 (ITE v11
 (Q [I 1])
 (OP (.eqs true [true, true, true, true, true, true]) [v0, I 0, I 0, I 0, v4, v5, v0, I 0, I 0, I 0, I 0, I 0] fun v12 =>
 (ITE v12
 (Q [I 1])
 (Q [I 0]))))))
 (OP (.un .not) [bb false] fun v10 =>
 (ITE v10
 (Q [I 1])
 (OP (.eqs true [true, true, true, true, true, true]) [v0, I 0, I 0, I 0, v4, v5, v0, I 0, I 0, I 0, I 0, I 0] fun v11 =>
 (ITE v11
 (Q [I 1])
 (Q [I 0])))))))
 (OP (.un .not) [bb false] fun v9 =>
 (ITE v9
 (Q [I 1])
 (OP (.eqs true [true, true, true, true, true, true]) [v0, I 0, I 0, I 0, v4, v5, v0, I 0, I 0, I 0, I 0, I 0] fun v10 =>
 (ITE v10
 (Q [I 1])
 (Q [I 0])))))))
 (OP (.bin .eql) [v0, I 3] fun v8 =>
 (ITE v8
 (SUB 1 (fun R =>
 (OP (.bin .geq) [v5, I 1] fun v9 =>
 (ITE v9
 (OP (.bin .leq) [v5, I 40] fun v10 =>
 (R [v10]))
 (R [bb false])))) fun v9 =>
 (ITE v9
 (CALL ρ 108 [v4] 1 fun v10 =>
 (OP (.un .not) [v10] fun v11 =>
 (ITE v11
 (Q [I 1])
 (OP (.eqs true [true, true, true, true, true, true]) [v0, v1, v2, v3, I 0, I 0, v0, I 0, I 0, I 0, I 0, I 0] fun v12 =>
 (ITE v12
 (Q [I 1])
 (Q [I 0]))))))
 (OP (.un .not) [bb false] fun v10 =>
 (ITE v10
 (Q [I 1])
 (OP (.eqs true [true, true, true, true, true, true]) [v0, v1, v2, v3, I 0, I 0, v0, I 0, I 0, I 0, I 0, I 0] fun v11 =>
 (ITE v11
 (Q [I 1])
 (Q [I 0])))))))
 (OP (.bin .eql) [v0, I 4] fun v9 =>
 (ITE v9
 (OP (.bin .geq) [v5, I 1] fun v10 =>
 (ITE v10
 (OP (.bin .leq) [v5, I 40] fun v11 =>
 (OP (.un .not) [v11] fun v12 =>
 (ITE v12
 (Q [I 1])
 (OP (.eqs true [true, true, true, true, true, true]) [v0, v1, v2, v3, v4, I 0, v0, I 0, I 0, I 0, I 0, I 0] fun v13 =>
 (ITE v13
 (Q [I 1])
 (Q [I 0]))))))
 (OP (.un .not) [bb false] fun v11 =>
 (ITE v11
 (Q [I 1])
 (OP (.eqs true [true, true, true, true, true, true]) [v0, v1, v2, v3, v4, I 0, v0, I 0, I 0, I 0, I 0, I 0] fun v12 =>
 (ITE v12
 (Q [I 1])
 (Q [I 0])))))))
 (OP (.bin .eql) [v0, I 5] fun v10 =>
 (ITE v10
 (OP (.un .not) [bb true] fun v11 =>
 (ITE v11
 (Q [I 1])
 (OP (.eqs true [true, true, true, true, true, true]) [v0, v1, v2, v3, v4, v5, v0, I 0, I 0, I 0, I 0, I 0] fun v12 =>
 (ITE v12
 (Q [I 1])
 (Q [I 0])))))
 (OP (.un .not) [bb false] fun v11 =>
 (ITE v11
 (Q [I 1])
 (OP (.eqs true [true, true, true, true, true, true]) [v0, v1, v2, v3, v4, v5, v0, I 0, I 0, I 0, I 0, I 0] fun v12 =>
 (ITE v12
 (Q [I 1])
 (Q [I 0])))))))))))))))
def S_ref10_Event (ρ : Fns) (v0 v1 v2 v3 v4 v5 : PV) (Q : List PV → Prop) : Prop :=
 (OP (.bin .eql) [v0, I 1] fun v6 =>
 (ITE v6
 (CALL ρ 99 [v1] 1 fun v7 =>
 (ITE v7
 (CALL ρ 144 [v2] 1 fun v8 =>
 (ITE v8
 (CALL ρ 65 [v4] 1 fun v9 =>
 (ITE v9
 (OP (.eqs false [true, true, true, true, true, true]) [v0, v1, v2, v3, v4, v5, v0, v1, v2, I 0, v4, I 0] fun v10 =>
 (Q [v10]))
 (Q [bb false])))
 (Q [bb false])))
 (Q [bb false])))
 (OP (.bin .eql) [v0, I 2] fun v7 =>
 (ITE v7
 (CALL ρ 99 [v1] 1 fun v8 =>
 (ITE v8
 (CALL ρ 144 [v2] 1 fun v9 =>
 (ITE v9
 (CALL ρ 98 [v3, v2, I 1073741824] 1 fun v10 =>
 (ITE v10
 (OP (.eqs false [true, true, true, true, true, true]) [v0, v1, v2, v3, v4, v5, v0, v1, v2, v3, I 0, I 0] fun v11 =>
 (Q [v11]))
 (Q [bb false])))
 (Q [bb false])))
 (Q [bb false])))
 (OP (.bin .eql) [v0, I 3] fun v8 =>
 (ITE v8
 (CALL ρ 98 [v5, I 1, I 40] 1 fun v9 =>
 (ITE v9
 (CALL ρ 43 [v4] 1 fun v10 =>
 (ITE v10
 (OP (.eqs false [true, true, true, true, true, true]) [v0, v1, v2, v3, v4, v5, v0, I 0, I 0, I 0, v4, v5] fun v11 =>
 (Q [v11]))
 (Q [bb false])))
 (Q [bb false])))
 (OP (.bin .eql) [v0, I 4] fun v9 =>
 (ITE v9
 (CALL ρ 98 [v5, I 1, I 40] 1 fun v10 =>
 (ITE v10
 (OP (.eqs false [true, true, true, true, true, true]) [v0, v1, v2, v3, v4, v5, v0, I 0, I 0, I 0, I 0, v5] fun v11 =>
 (Q [v11]))
 (Q [bb false])))
 (OP (.bin .eql) [v0, I 5] fun v10 =>
 (ITE v10
 (OP (.eqs false [true, true, true, true, true, true]) [v0, v1, v2, v3, v4, v5, v0, I 0, I 0, I 0, I 0, I 0] fun v11 =>
 (Q [v11]))
 (Q [bb false])))))))))))
def S_queue_Check (ρ : Fns) (v0 v1 : PV) (Q : List PV → Prop) : Prop :=
 (SUB 1 (fun R =>
 (OP (.bin .lss) [v1, I 2] fun v2 =>
 (ITE v2
 (R [bb true])
 (OP (.bin .gtr) [v1, I 32] fun v3 =>
 (ITE v3
 (R [bb true])
 (OP .len [v0] fun v4 =>
 (OP (.bin .gtr) [v4, v1] fun v5 =>
 (R [v5])))))))) fun v2 =>
 (SUB 1 (fun R =>
 (ITE v2
 (R [bb true])
 (OP .len [v0] fun v3 =>
 (LOOP 1 [I 0] fun N0 v4 =>
 (OP (.bin .lss) [v4, v3] fun v5 =>
 (ITE v5
 (OP (.idx 6) [v0, v4] fun v6 =>
 (CALL ρ 173 [v0.cellAt v6 0, v0.cellAt v6 1, v0.cellAt v6 2, v0.cellAt v6 3, v0.cellAt v6 4, v0.cellAt v6 5] 1 fun v7 =>
 (OP (.bin .neq) [v7, I 0] fun v8 =>
 (ITE v8
 (OP (.bin .geq) [v4, I 0] fun v9 =>
 (OP .sel [v2, bb true, v9] fun v10 =>
 (R [v10])))
 (OP (.bin .add) [v4, I 1] fun v9 =>
 (N0 [v9]))))))
 (OP (.bin .geq) [I (-1), I 0] fun v6 =>
 (OP .sel [v2, bb true, v6] fun v7 =>
 (R [v7]))))))))) fun v3 =>
 (ITE v3
 (Q [I 1])
 (OP .len [v0] fun v4 =>
 (OP (.bin .eql) [v4, v1] fun v5 =>
 (ITE v5
 (OP (.bin .sub) [v1, I 1] fun v6 =>
 (OP (.idx 6) [v0, v6] fun v7 =>
 (OP (.bin .neq) [v0.cellAt v7 0, I 2] fun v8 =>
 (ITE v8
 (Q [I 1])
 (Q [I 0])))))
 (Q [I 0])))))))
def S_ref10_Queue (ρ : Fns) (v0 v1 : PV) (Q : List PV → Prop) : Prop :=
 (SUB 1 (fun R =>
 (CALL ρ 98 [v1, I 2, I 32] 1 fun v2 =>
 (OP (.un .not) [v2] fun v3 =>
 (ITE v3
 (R [bb true])
 (OP .len [v0] fun v4 =>
 (OP (.bin .gtr) [v4, v1] fun v5 =>
 (R [v5]))))))) fun v2 =>
 (ITE v2
 (Q [bb false])
 (LOOP 1 [I 0] fun N0 v3 =>
 (OP .len [v0] fun v4 =>
 (OP (.bin .lss) [v3, v4] fun v5 =>
 (ITE v5
 (OP (.idx 6) [v0, v3] fun v6 =>
 (CALL ρ 147 [v0.cellAt v6 0, v0.cellAt v6 1, v0.cellAt v6 2, v0.cellAt v6 3, v0.cellAt v6 4, v0.cellAt v6 5] 1 fun v7 =>
 (OP (.un .not) [v7] fun v8 =>
 (ITE v8
 (Q [bb false])
 (OP (.bin .add) [v3, I 1] fun v9 =>
 (N0 [v9]))))))
 (OP .len [v0] fun v6 =>
 (OP (.bin .lss) [v6, v1] fun v7 =>
 (ITE v7
 (Q [bb true])
 (OP .len [v0] fun v8 =>
 (OP (.bin .sub) [v8, I 1] fun v9 =>
 (OP (.idx 6) [v0, v9] fun v10 =>
 (OP (.bin .eql) [v0.cellAt v10 0, I 2] fun v11 =>
 (Q [v11]))))))))))))))
def S_flow_zero (ρ : Fns) (v0 v1 v2 v3 v4 : PV) (Q : List PV → Prop) : Prop :=
 (OP (.bin .eql) [v0, I 0] fun v5 =>
 (ITE v5
 (OP (.bin .eql) [v1, I 0] fun v6 =>
 (ITE v6
 (OP (.bin .eql) [v2, I 0] fun v7 =>
 (ITE v7
 (OP .len [v3] fun v8 =>
 (OP (.bin .eql) [v8, I 0] fun v9 =>
 (ITE v9
 (OP .len [v4] fun v10 =>
 (OP (.bin .eql) [v10, I 0] fun v11 =>
 (Q [v11])))
 (Q [bb false]))))
 (Q [bb false])))
 (Q [bb false])))
 (Q [bb false])))
def S_flow_right (ρ : Fns) (v0 v1 v2 v3 v4 v5 v6 v7 v8 v9 v10 v11 : PV) (Q : List PV → Prop) : Prop :=
 (CALL ρ 168 [v7, v8, v9, v10, v11] 1 fun v12 =>
 (ITE v12
 (Q [bb true])
 (CALL ρ 92 [v7] 1 fun v13 =>
 (OP (.bin .eql) [v13, I 0] fun v14 =>
 (ITE v14
 (CALL ρ 91 [v8] 1 fun v15 =>
 (ITE v15
 (OP (.bin .geq) [v9, v8] fun v16 =>
 (ITE v16
 (OP (.bin .leq) [v9, I 1073741824] fun v17 =>
 (ITE v17
 (CALL ρ 169 [v10, v8, v4] 1 fun v18 =>
 (OP (.bin .eql) [v18, I 0] fun v19 =>
 (ITE v19
 (CALL ρ 170 [v11, v8, v5] 1 fun v20 =>
 (OP (.bin .eql) [v20, I 0] fun v21 =>
 (Q [v21])))
 (Q [bb false]))))
 (Q [bb false])))
 (Q [bb false])))
 (Q [bb false])))
 (Q [bb false]))))))
def S_flow_Check (ρ : Fns) (v0 v1 v2 v3 v4 v5 v6 v7 v8 v9 v10 v11 v12 : PV) (Q : List PV → Prop) : Prop :=
 (CALL ρ 49 [v0, v1, v2, v3, v4, v5, v6] 1 fun v13 =>
 (OP (.bin .neq) [v13, I 0] fun v14 =>
 (ITE v14
 (Q [v13])
 (CALL ρ 163 [v0, v1, v2, v3, v4, v5, v6, v7, v8, v9, v10, v11] 1 fun v15 =>
 (OP (.un .not) [v15] fun v16 =>
 (ITE v16
 (Q [I 1])
 (CALL ρ 164 [v12, v6] 1 fun v17 =>
 (OP (.bin .neq) [v17, I 0] fun v18 =>
 (ITE v18
 (Q [I 1])
 (Q [I 0]))))))))))
def S_ref10_Stream (ρ : Fns) (v0 v1 v2 v3 v4 v5 v6 v7 v8 v9 v10 v11 : PV) (Q : List PV → Prop) : Prop :=
 (CALL ρ 96 [v7, v8, v9, v10, v11, I 0, I 0, I 0, L (α := Item) [], L (α := Item) []] 1 fun v12 =>
 (ITE v12
 (Q [bb true])
 (CALL ρ 99 [v7] 1 fun v13 =>
 (ITE v13
 (CALL ρ 144 [v8] 1 fun v14 =>
 (ITE v14
 (CALL ρ 98 [v9, v8, I 1073741824] 1 fun v15 =>
 (ITE v15
 (CALL ρ 145 [v10, v8, v4] 1 fun v16 =>
 (ITE v16
 (CALL ρ 146 [v11, v8, v5] 1 fun v17 =>
 (Q [v17]))
 (Q [bb false])))
 (Q [bb false])))
 (Q [bb false])))
 (Q [bb false])))))
def S_ref10_Flow (ρ : Fns) (v0 v1 v2 v3 v4 v5 v6 v7 v8 v9 v10 v11 v12 : PV) (Q : List PV → Prop) : Prop :=
 (CALL ρ 128 [v0, v1, v2, v3, v4, v5, v6, v7, v8, v9, v10, v11] 1 fun v13 =>
 (ITE v13
 (CALL ρ 129 [v12, v6] 1 fun v14 =>
 (Q [v14]))
 (Q [bb false])))
def S_graft_link (ρ : Fns) (v0 v1 v2 : PV) (Q : List PV → Prop) : Prop :=
 (OP (.bin .eql) [v2, I 0] fun v3 =>
 (ITE v3
 (Q [bb true])
 (OP (.bin .gtr) [v2, I 0] fun v4 =>
 (ITE v4
 (OP (.bin .sub) [v2, I 1] fun v5 =>
 (CALL ρ 159 [v0, v5, v1] 1 fun v6 =>
 (Q [v6])))
 (Q [bb false])))))
def S_ref10_near (ρ : Fns) (v0 v1 v2 : PV) (Q : List PV → Prop) : Prop :=
 (OP (.bin .eql) [v2, I 0] fun v3 =>
 (ITE v3
 (Q [bb true])
 (CALL ρ 98 [v2, I 1, I 8] 1 fun v4 =>
 (ITE v4
 (OP (.bin .sub) [v2, I 1] fun v5 =>
 (CALL ρ 126 [v0, v5, v1] 1 fun v6 =>
 (Q [v6])))
 (Q [bb false])))))
def S_graft_rooted (ρ : Fns) (v0 v1 v2 v3 v4 v5 v6 v7 v8 v9 v10 v11 v12 v13 v14 v15 v16 : PV) (Q : List PV → Prop) : Prop :=
 (OP (.bin .eql) [v4, I 0] fun v17 =>
 (ITE v17
 (Q [bb true])
 (CALL ρ 55 [v4] 2 fun v18 v19 =>
 (OP (.bin .eql) [v19, I 0] fun v20 =>
 (ITE v20
 (OP (.bin .eql) [v18, v0] fun v21 =>
 (ITE v21
 (OP (.bin .leq) [v4, v3] fun v22 =>
 (ITE v22
 (OP (.bin .eql) [v5, I 0] fun v23 =>
 (ITE v23
 (OP (.bin .eql) [v11, v4] fun v24 =>
 (Q [v24]))
 (Q [bb false])))
 (Q [bb false])))
 (Q [bb false])))
 (Q [bb false]))))))
def S_graft_placed (ρ : Fns) (v0 v1 v2 v3 v4 v5 v6 v7 v8 v9 v10 v11 v12 v13 v14 v15 : PV) (Q : List PV → Prop) : Prop :=
 (OP .len [v8] fun v16 =>
 (OP (.bin .eql) [v16, I 0] fun v17 =>
 (ITE v17
 (OP (.bin .eql) [v4, I 0] fun v18 =>
 (Q [v18]))
 (OP (.idx 1) [v8, I 0] fun v18 =>
 (OP (.bin .add) [v8.cellAt v18 0, I 1] fun v19 =>
 (OP (.bin .eql) [v4, v19] fun v20 =>
 (Q [v20])))))))
def S_graft_right (ρ : Fns) (v0 v1 v2 v3 v4 v5 v6 v7 v8 v9 v10 v11 v12 v13 v14 v15 v16 v17 v18 v19 v20 v21 v22 v23 v24 : PV) (Q : List PV → Prop) : Prop :=
 (SUB 1 (fun R =>
 (OP (.bin .lss) [v11, I 0] fun v25 =>
 (ITE v25
 (R [bb true])
 (OP (.bin .gtr) [v11, I 1073741824] fun v26 =>
 (ITE v26
 (R [bb true])
 (OP (.bin .lss) [v16, I 0] fun v27 =>
 (ITE v27
 (R [bb true])
 (OP (.bin .gtr) [v16, I 1000] fun v28 =>
 (R [v28]))))))))) fun v25 =>
 (ITE v25
 (Q [bb false])
 (SUB 1 (fun R =>
 (CALL ρ 150 [v7, v8, v13] 1 fun v26 =>
 (ITE v26
 (CALL ρ 150 [v7, v8, v14] 1 fun v27 =>
 (ITE v27
 (CALL ρ 150 [v7, v8, v15] 1 fun v28 =>
 (R [v28]))
 (R [bb false])))
 (R [bb false])))) fun v26 =>
 (ITE v26
 (CALL ρ 151 [v8, v9, v10, v11, v12, v13, v14, v15, v16, v17, v18, v19, v20, v21, v22, v23, v24] 1 fun v27 =>
 (ITE v27
 (CALL ρ 152 [v9, v10, v11, v12, v13, v14, v15, v16, v17, v18, v19, v20, v21, v22, v23, v24] 1 fun v28 =>
 (ITE v28
 (CALL ρ 153 [v7, v8, v17, v3] 1 fun v29 =>
 (OP (.bin .eql) [v29, I 0] fun v30 =>
 (ITE v30
 (CALL ρ 154 [v7, v8, v2, v18] 1 fun v31 =>
 (OP (.bin .eql) [v31, I 0] fun v32 =>
 (ITE v32
 (CALL ρ 155 [v0, v1, v2, v3, v4, v5, v6, v19, v20, v21, v22, v23, v24] 1 fun v33 =>
 (OP (.bin .eql) [v33, I 0] fun v34 =>
 (Q [v34])))
 (Q [bb false]))))
 (Q [bb false]))))
 (Q [bb false])))
 (Q [bb false])))
 (Q [bb false])))))
def S_graft_Check (ρ : Fns) (v0 v1 v2 v3 v4 v5 v6 v7 v8 v9 v10 v11 v12 v13 v14 v15 v16 v17 v18 v19 v20 v21 v22 v23 v24 : PV) (Q : List PV → Prop) : Prop :=
 (CALL ρ 49 [v0, v1, v2, v3, v4, v5, v6] 1 fun v25 =>
 (OP (.bin .neq) [v25, I 0] fun v26 =>
 (ITE v26
 (Q [v25])
 (OP (.bin .lss) [v7, I 0] fun v27 =>
 (ITE v27
 (Q [I 1])
 (OP (.bin .geq) [v7, v1] fun v28 =>
 (ITE v28
 (Q [I 1])
 (OP (.bin .lss) [v8, I 0] fun v29 =>
 (ITE v29
 (Q [I 1])
 (OP (.bin .geq) [v8, v0] fun v30 =>
 (ITE v30
 (Q [I 1])
 (CALL ρ 138 [v0, v1, v2, v3, v4, v5, v6, v7, v8, v9, v10, v11, v12, v13, v14, v15, v16, v17, v18, v19, v20, v21, v22, v23, v24] 1 fun v31 =>
 (OP (.un .not) [v31] fun v32 =>
 (ITE v32
 (Q [I 1])
 (Q [I 0])))))))))))))))
def S_ref10_Topic (ρ : Fns) (v0 v1 v2 v3 v4 v5 v6 v7 v8 v9 v10 v11 v12 v13 v14 v15 v16 v17 v18 v19 v20 v21 v22 v23 v24 : PV) (Q : List PV → Prop) : Prop :=
 (SUB 1 (fun R =>
 (CALL ρ 98 [v11, I 0, I 1073741824] 1 fun v25 =>
 (OP (.un .not) [v25] fun v26 =>
 (ITE v26
 (R [bb true])
 (OP (.bin .neq) [v12, I 0] fun v27 =>
 (ITE v27
 (CALL ρ 99 [v12] 1 fun v28 =>
 (OP (.un .not) [v28] fun v29 =>
 (ITE v29
 (R [bb true])
 (OP (.bin .rem) [v12, I 16] fun v30 =>
 (OP (.bin .neq) [v30, v8] fun v31 =>
 (ITE v31
 (R [bb true])
 (OP (.bin .gtr) [v12, v11] fun v32 =>
 (ITE v32
 (R [bb true])
 (CALL ρ 100 [v7, v8, v13] 1 fun v33 =>
 (OP (.un .not) [v33] fun v34 =>
 (ITE v34
 (R [bb true])
 (CALL ρ 100 [v7, v8, v14] 1 fun v35 =>
 (OP (.un .not) [v35] fun v36 =>
 (ITE v36
 (R [bb true])
 (CALL ρ 100 [v7, v8, v15] 1 fun v37 =>
 (OP (.un .not) [v37] fun v38 =>
 (ITE v38
 (R [bb true])
 (CALL ρ 98 [v16, I 0, I 1000] 1 fun v39 =>
 (OP (.un .not) [v39] fun v40 =>
 (R [v40]))))))))))))))))))))
 (CALL ρ 100 [v7, v8, v13] 1 fun v28 =>
 (OP (.un .not) [v28] fun v29 =>
 (ITE v29
 (R [bb true])
 (CALL ρ 100 [v7, v8, v14] 1 fun v30 =>
 (OP (.un .not) [v30] fun v31 =>
 (ITE v31
 (R [bb true])
 (CALL ρ 100 [v7, v8, v15] 1 fun v32 =>
 (OP (.un .not) [v32] fun v33 =>
 (ITE v33
 (R [bb true])
 (CALL ρ 98 [v16, I 0, I 1000] 1 fun v34 =>
 (OP (.un .not) [v34] fun v35 =>
 (R [v35])))))))))))))))))) fun v25 =>
 (ITE v25
 (Q [bb false])
 (CALL ρ 101 [v7, v8, v17, v3] 1 fun v26 =>
 (OP (.bin .neq) [v26, I 0] fun v27 =>
 (ITE v27
 (Q [bb false])
 (OP .len [v17] fun v28 =>
 (OP (.bin .gtr) [v28, I 0] fun v29 =>
 (OP (.bin .gtr) [v13, I 0] fun v30 =>
 (OP (.beq true) [v29, v30] fun v31 =>
 (ITE v31
 (Q [bb false])
 (OP .len [v17] fun v32 =>
 (OP (.bin .gtr) [v32, I 0] fun v33 =>
 (ITE v33
 (OP (.idx 1) [v17, I 0] fun v34 =>
 (OP (.bin .sub) [v13, I 1] fun v35 =>
 (OP (.bin .neq) [v17.cellAt v34 0, v35] fun v36 =>
 (ITE v36
 (Q [bb false])
 (OP (.bin .neq) [v12, I 0] fun v37 =>
 (ITE v37
 (OP (.bin .neq) [v13, I 0] fun v38 =>
 (ITE v38
 (Q [bb false])
 (OP (.bin .neq) [v19, v12] fun v39 =>
 (ITE v39
 (Q [bb false])
 (CALL ρ 102 [v7, v8, v2, v18] 1 fun v40 =>
 (ITE v40
 (CALL ρ 103 [v0, v1, v2, v3, v4, v5, v6, v19, v20, v21, v22, v23, v24] 1 fun v41 =>
 (Q [v41]))
 (Q [bb false])))))))
 (CALL ρ 102 [v7, v8, v2, v18] 1 fun v38 =>
 (ITE v38
 (CALL ρ 103 [v0, v1, v2, v3, v4, v5, v6, v19, v20, v21, v22, v23, v24] 1 fun v39 =>
 (Q [v39]))
 (Q [bb false])))))))))
 (OP (.bin .neq) [v12, I 0] fun v34 =>
 (ITE v34
 (OP (.bin .neq) [v13, I 0] fun v35 =>
 (ITE v35
 (Q [bb false])
 (OP (.bin .neq) [v19, v12] fun v36 =>
 (ITE v36
 (Q [bb false])
 (CALL ρ 102 [v7, v8, v2, v18] 1 fun v37 =>
 (ITE v37
 (CALL ρ 103 [v0, v1, v2, v3, v4, v5, v6, v19, v20, v21, v22, v23, v24] 1 fun v38 =>
 (Q [v38]))
 (Q [bb false])))))))
 (CALL ρ 102 [v7, v8, v2, v18] 1 fun v35 =>
 (ITE v35
 (CALL ρ 103 [v0, v1, v2, v3, v4, v5, v6, v19, v20, v21, v22, v23, v24] 1 fun v36 =>
 (Q [v36]))
 (Q [bb false]))))))))))))))))))
def S_cast_calls (ρ : Fns) (v0 v1 v2 v3 v4 v5 v6 v7 v8 v9 v10 v11 v12 v13 v14 v15 : PV) (Q : List PV → Prop) : Prop :=
 (OP .len [v11] fun v16 =>
 (LOOP 2 [I 0, I 0] fun N0 v17 v18 =>
 (OP (.bin .lss) [v18, v16] fun v19 =>
 (ITE v19
 (OP (.idx 3) [v11, v18] fun v20 =>
 (OP (.bin .leq) [v11.cellAt v20 0, v17] fun v21 =>
 (ITE v21
 (Q [bb false])
 (OP (.bin .gtr) [v11.cellAt v20 0, v13] fun v22 =>
 (ITE v22
 (Q [bb false])
 (OP (.bin .sub) [v1, I 1] fun v23 =>
 (CALL ρ 83 [v11.cellAt v20 1, I 0, v23] 1 fun v24 =>
 (OP (.un .not) [v24] fun v25 =>
 (ITE v25
 (Q [bb false])
 (CALL ρ 83 [v11.cellAt v20 2, I 0, I 20] 1 fun v26 =>
 (OP (.un .not) [v26] fun v27 =>
 (ITE v27
 (Q [bb false])
 (OP (.bin .add) [v18, I 1] fun v28 =>
 (N0 [v11.cellAt v20 0, v28]))))))))))))))
 (OP .len [v11] fun v20 =>
 (OP (.bin .leq) [v20, I 40] fun v21 =>
 (Q [v21])))))))
def S_cast_mark (ρ : Fns) (v0 v1 v2 : PV) (Q : List PV → Prop) : Prop :=
 (CALL ρ 83 [v0, I 0, I 1073741824] 1 fun v3 =>
 (ITE v3
 (CALL ρ 83 [v1, I 0, I 1073741824] 1 fun v4 =>
 (ITE v4
 (CALL ρ 83 [v2, I 0, I 2199023255551] 1 fun v5 =>
 (Q [v5]))
 (Q [bb false])))
 (Q [bb false])))
def S_cast_taken (ρ : Fns) (v0 v1 v2 v3 v4 v5 v6 v7 v8 v9 v10 v11 : PV) (Q : List PV → Prop) : Prop :=
 (OP (.bin .sub) [v0, I 1] fun v12 =>
 (CALL ρ 83 [v7, I 0, v12] 1 fun v13 =>
 (ITE v13
 (OP (.bin .sub) [v1, I 1] fun v14 =>
 (CALL ρ 83 [v10, I 0, v14] 1 fun v15 =>
 (ITE v15
 (CALL ρ 91 [v8] 1 fun v16 =>
 (ITE v16
 (CALL ρ 91 [v9] 1 fun v17 =>
 (ITE v17
 (CALL ρ 142 [v11] 1 fun v18 =>
 (Q [v18]))
 (Q [bb false])))
 (Q [bb false])))
 (Q [bb false]))))
 (Q [bb false]))))
def S_cast_right (ρ : Fns) (v0 v1 v2 v3 v4 v5 v6 v7 v8 v9 v10 v11 v12 v13 v14 v15 v16 : PV) (Q : List PV → Prop) : Prop :=
 (SUB 1 (fun R =>
 (CALL ρ 91 [v9] 1 fun v17 =>
 (OP (.un .not) [v17] fun v18 =>
 (ITE v18
 (R [bb true])
 (CALL ρ 83 [v13, I 0, I 1073741824] 1 fun v19 =>
 (OP (.un .not) [v19] fun v20 =>
 (ITE v20
 (R [bb true])
 (CALL ρ 83 [v14, I 0, I 40] 1 fun v21 =>
 (OP (.un .not) [v21] fun v22 =>
 (ITE v22
 (R [bb true])
 (CALL ρ 114 [v0, v1, v2, v3, v4, v5, v6, v8, v9, v10, v11, v12, v13, v14, v15, v16] 1 fun v23 =>
 (OP (.un .not) [v23] fun v24 =>
 (R [v24]))))))))))))) fun v17 =>
 (ITE v17
 (Q [bb false])
 (SUB 1 (fun R =>
 (OP .len [v10] fun v18 =>
 (OP (.bin .neq) [v18, v0] fun v19 =>
 (ITE v19
 (R [bb true])
 (OP .len [v11] fun v20 =>
 (OP (.bin .neq) [v20, v1] fun v21 =>
 (ITE v21
 (R [bb true])
 (OP .len [v15] fun v22 =>
 (OP (.bin .neq) [v22, v0] fun v23 =>
 (ITE v23
 (R [bb true])
 (OP .len [v16] fun v24 =>
 (OP (.bin .gtr) [v24, I 64] fun v25 =>
 (R [v25]))))))))))))) fun v18 =>
 (ITE v18
 (Q [bb false])
 (OP .len [v11] fun v19 =>
 (LOOP 1 [I 0] fun N0 v20 =>
 (OP (.bin .lss) [v20, v19] fun v21 =>
 (ITE v21
 (OP (.idx 16) [v11, v20] fun v22 =>
 (CALL ρ 115 [v0, v1, v2, v3, v4, v5, v6, v20, v7, v11.cellAt v22 0, v11.cellAt v22 1, v11.cellAt v22 2, v11.cellAt v22 3, v11.cellAt v22 4, v11.cellAt v22 5, v11.cellAt v22 6, v11.cellAt v22 7, v11.cellAt v22 8, v11.cellAt v22 9, v11.cellAt v22 10, v11.cellAt v22 11, v11.cellAt v22 12, v11.cellAt v22 13, v11.cellAt v22 14, v11.cellAt v22 15] 1 fun v23 =>
 (OP (.bin .neq) [v23, I 0] fun v24 =>
 (ITE v24
 (Q [bb false])
 (OP (.bin .add) [v20, I 1] fun v25 =>
 (N0 [v25]))))))
 (OP .len [v15] fun v22 =>
 (LOOP 1 [I 0] fun N1 v23 =>
 (OP (.bin .lss) [v23, v22] fun v24 =>
 (ITE v24
 (OP (.idx 3) [v15, v23] fun v25 =>
 (CALL ρ 117 [v15.cellAt v25 0, v15.cellAt v25 1, v15.cellAt v25 2] 1 fun v26 =>
 (OP (.un .not) [v26] fun v27 =>
 (ITE v27
 (OP (.bin .geq) [v23, I 0] fun v28 =>
 (CALL ρ 118 [v10] 1 fun v29 =>
 (OP (.bin .eql) [v29, I 0] fun v30 =>
 (ITE v30
 (OP (.un .not) [v28] fun v31 =>
 (ITE v31
 (OP .len [v16] fun v32 =>
 (LOOP 1 [I 0] fun N2 v33 =>
 (OP (.bin .lss) [v33, v32] fun v34 =>
 (ITE v34
 (OP (.idx 5) [v16, v33] fun v35 =>
 (CALL ρ 121 [v0, v1, v2, v3, v4, v5, v6, v16.cellAt v35 0, v16.cellAt v35 1, v16.cellAt v35 2, v16.cellAt v35 3, v16.cellAt v35 4] 1 fun v36 =>
 (OP (.un .not) [v36] fun v37 =>
 (ITE v37
 (OP (.bin .geq) [v33, I 0] fun v38 =>
 (ITE v31
 (OP (.un .not) [v38] fun v39 =>
 (Q [v39]))
 (Q [bb false])))
 (OP (.bin .add) [v33, I 1] fun v38 =>
 (N2 [v38]))))))
 (OP (.bin .geq) [I (-1), I 0] fun v35 =>
 (ITE v31
 (OP (.un .not) [v35] fun v36 =>
 (Q [v36]))
 (Q [bb false])))))))
 (Q [bb false])))
 (Q [bb false])))))
 (OP (.bin .add) [v23, I 1] fun v28 =>
 (N1 [v28]))))))
 (OP (.bin .geq) [I (-1), I 0] fun v25 =>
 (CALL ρ 118 [v10] 1 fun v26 =>
 (OP (.bin .eql) [v26, I 0] fun v27 =>
 (ITE v27
 (OP (.un .not) [v25] fun v28 =>
 (ITE v28
 (OP .len [v16] fun v29 =>
 (LOOP 1 [I 0] fun N2 v30 =>
 (OP (.bin .lss) [v30, v29] fun v31 =>
 (ITE v31
 (OP (.idx 5) [v16, v30] fun v32 =>
 (CALL ρ 121 [v0, v1, v2, v3, v4, v5, v6, v16.cellAt v32 0, v16.cellAt v32 1, v16.cellAt v32 2, v16.cellAt v32 3, v16.cellAt v32 4] 1 fun v33 =>
 (OP (.un .not) [v33] fun v34 =>
 (ITE v34
 (OP (.bin .geq) [v30, I 0] fun v35 =>
 (ITE v28
 (OP (.un .not) [v35] fun v36 =>
 (Q [v36]))
 (Q [bb false])))
 (OP (.bin .add) [v30, I 1] fun v35 =>
 (N2 [v35]))))))
 (OP (.bin .geq) [I (-1), I 0] fun v32 =>
 (ITE v28
 (OP (.un .not) [v32] fun v33 =>
 (Q [v33]))
 (Q [bb false])))))))
 (Q [bb false])))
 (Q [bb false])))))))))))))))))
def S_cast_Check (ρ : Fns) (v0 v1 v2 v3 v4 v5 v6 v7 v8 v9 v10 v11 v12 v13 v14 v15 v16 : PV) (Q : List PV → Prop) : Prop :=
 (CALL ρ 49 [v0, v1, v2, v3, v4, v5, v6] 1 fun v17 =>
 (OP (.bin .neq) [v17, I 0] fun v18 =>
 (ITE v18
 (Q [v17])
 (OP (.bin .sub) [v0, I 1] fun v19 =>
 (CALL ρ 83 [v7, I 0, v19] 1 fun v20 =>
 (OP (.un .not) [v20] fun v21 =>
 (ITE v21
 (Q [I 9])
 (OP (.un .not) [v8] fun v22 =>
 (ITE v22
 (Q [I 9])
 (CALL ρ 84 [v0, v1, v2, v3, v4, v5, v6, v7, v8, v9, v10, v11, v12, v13, v14, v15, v16] 1 fun v23 =>
 (OP (.un .not) [v23] fun v24 =>
 (ITE v24
 (Q [I 1])
 (Q [I 0])))))))))))))
def S_ref19_Node (ρ : Fns) (v0 v1 v2 v3 v4 v5 v6 v7 v8 v9 v10 v11 v12 v13 v14 v15 v16 : PV) (Q : List PV → Prop) : Prop :=
 (SUB 1 (fun R =>
 (CALL ρ 62 [v9, I 1, I 1073741824] 1 fun v17 =>
 (OP (.un .not) [v17] fun v18 =>
 (ITE v18
 (R [bb true])
 (OP .len [v10] fun v19 =>
 (OP (.bin .neq) [v19, v0] fun v20 =>
 (ITE v20
 (R [bb true])
 (CALL ρ 63 [v10] 1 fun v21 =>
 (OP (.un .not) [v21] fun v22 =>
 (ITE v22
 (R [bb true])
 (OP .len [v11] fun v23 =>
 (OP (.bin .neq) [v23, v1] fun v24 =>
 (ITE v24
 (R [bb true])
 (OP .len [v12] fun v25 =>
 (OP (.bin .gtr) [v25, I 40] fun v26 =>
 (ITE v26
 (R [bb true])
 (CALL ρ 62 [v13, I 0, I 1073741824] 1 fun v27 =>
 (OP (.un .not) [v27] fun v28 =>
 (ITE v28
 (R [bb true])
 (CALL ρ 62 [v14, I 0, I 40] 1 fun v29 =>
 (OP (.un .not) [v29] fun v30 =>
 (ITE v30
 (R [bb true])
 (OP .len [v15] fun v31 =>
 (OP (.bin .neq) [v31, v0] fun v32 =>
 (ITE v32
 (R [bb true])
 (OP .len [v16] fun v33 =>
 (OP (.bin .gtr) [v33, I 64] fun v34 =>
 (R [v34])))))))))))))))))))))))))))) fun v17 =>
 (ITE v17
 (Q [bb false])
 (LOOP 1 [I 0] fun N0 v18 =>
 (OP (.bin .lss) [v18, v1] fun v19 =>
 (ITE v19
 (OP (.idx 16) [v11, v18] fun v20 =>
 (CALL ρ 64 [v0, v1, v2, v3, v4, v5, v6, v18, v7, v11.cellAt v20 0, v11.cellAt v20 1, v11.cellAt v20 2, v11.cellAt v20 3, v11.cellAt v20 4, v11.cellAt v20 5, v11.cellAt v20 6, v11.cellAt v20 7, v11.cellAt v20 8, v11.cellAt v20 9, v11.cellAt v20 10, v11.cellAt v20 11, v11.cellAt v20 12, v11.cellAt v20 13, v11.cellAt v20 14, v11.cellAt v20 15] 1 fun v21 =>
 (OP (.un .not) [v21] fun v22 =>
 (ITE v22
 (Q [bb false])
 (OP (.bin .add) [v18, I 1] fun v23 =>
 (N0 [v23]))))))
 (LOOP 1 [I 0] fun N1 v20 =>
 (OP .len [v12] fun v21 =>
 (OP (.bin .lss) [v20, v21] fun v22 =>
 (ITE v22
 (OP (.idx 3) [v12, v20] fun v23 =>
 (CALL ρ 62 [v12.cellAt v23 0, I 1, v14] 1 fun v24 =>
 (OP (.un .not) [v24] fun v25 =>
 (ITE v25
 (Q [bb false])
 (OP (.bin .gtr) [v20, I 0] fun v26 =>
 (ITE v26
 (OP (.bin .sub) [v20, I 1] fun v27 =>
 (OP (.idx 3) [v12, v27] fun v28 =>
 (OP (.bin .leq) [v12.cellAt v23 0, v12.cellAt v28 0] fun v29 =>
 (ITE v29
 (Q [bb false])
 (OP (.bin .sub) [v1, I 1] fun v30 =>
 (CALL ρ 62 [v12.cellAt v23 1, I 0, v30] 1 fun v31 =>
 (OP (.un .not) [v31] fun v32 =>
 (ITE v32
 (Q [bb false])
 (CALL ρ 62 [v12.cellAt v23 2, I 0, I 20] 1 fun v33 =>
 (OP (.un .not) [v33] fun v34 =>
 (ITE v34
 (Q [bb false])
 (OP (.bin .add) [v20, I 1] fun v35 =>
 (N1 [v35])))))))))))))
 (OP (.bin .sub) [v1, I 1] fun v27 =>
 (CALL ρ 62 [v12.cellAt v23 1, I 0, v27] 1 fun v28 =>
 (OP (.un .not) [v28] fun v29 =>
 (ITE v29
 (Q [bb false])
 (CALL ρ 62 [v12.cellAt v23 2, I 0, I 20] 1 fun v30 =>
 (OP (.un .not) [v30] fun v31 =>
 (ITE v31
 (Q [bb false])
 (OP (.bin .add) [v20, I 1] fun v32 =>
 (N1 [v32])))))))))))))))
 (LOOP 1 [I 0] fun N2 v23 =>
 (OP .len [v15] fun v24 =>
 (OP (.bin .lss) [v23, v24] fun v25 =>
 (ITE v25
 (OP (.idx 3) [v15, v23] fun v26 =>
 (CALL ρ 62 [v15.cellAt v26 0, I 0, I 1073741824] 1 fun v27 =>
 (OP (.un .not) [v27] fun v28 =>
 (ITE v28
 (Q [bb false])
 (CALL ρ 62 [v15.cellAt v26 1, I 0, I 1073741824] 1 fun v29 =>
 (OP (.un .not) [v29] fun v30 =>
 (ITE v30
 (Q [bb false])
 (CALL ρ 62 [v15.cellAt v26 2, I 0, I 2199023255551] 1 fun v31 =>
 (OP (.un .not) [v31] fun v32 =>
 (ITE v32
 (Q [bb false])
 (OP (.bin .add) [v23, I 1] fun v33 =>
 (N2 [v33]))))))))))))
 (LOOP 1 [I 0] fun N3 v26 =>
 (OP .len [v16] fun v27 =>
 (OP (.bin .lss) [v26, v27] fun v28 =>
 (ITE v28
 (OP (.idx 5) [v16, v26] fun v29 =>
 (OP (.bin .sub) [v0, I 1] fun v30 =>
 (CALL ρ 62 [v16.cellAt v29 0, I 0, v30] 1 fun v31 =>
 (OP (.un .not) [v31] fun v32 =>
 (ITE v32
 (Q [bb false])
 (CALL ρ 62 [v16.cellAt v29 1, I 1, I 1073741824] 1 fun v33 =>
 (OP (.un .not) [v33] fun v34 =>
 (ITE v34
 (Q [bb false])
 (CALL ρ 62 [v16.cellAt v29 2, I 1, I 1073741824] 1 fun v35 =>
 (OP (.un .not) [v35] fun v36 =>
 (ITE v36
 (Q [bb false])
 (OP (.bin .sub) [v1, I 1] fun v37 =>
 (CALL ρ 62 [v16.cellAt v29 3, I 0, v37] 1 fun v38 =>
 (OP (.un .not) [v38] fun v39 =>
 (ITE v39
 (Q [bb false])
 (CALL ρ 65 [v16.cellAt v29 4] 1 fun v40 =>
 (OP (.un .not) [v40] fun v41 =>
 (ITE v41
 (Q [bb false])
 (OP (.bin .add) [v26, I 1] fun v42 =>
 (N3 [v42]))))))))))))))))))))
 (Q [bb true]))))))))))))))))))
def S_bkeep_Peers (ρ : Fns) (v0 v1 : PV) (Q : List PV → Prop) : Prop :=
 (OP .len [v0] fun v2 =>
 (OP .len [v1] fun v3 =>
 (OP (.bin .neq) [v2, v3] fun v4 =>
 (ITE v4
 (Q [bb false])
 (LOOP 1 [I 0] fun N0 v5 =>
 (OP .len [v0] fun v6 =>
 (OP (.bin .lss) [v5, v6] fun v7 =>
 (ITE v7
 (OP (.idx 2) [v0, v5] fun v8 =>
 (OP (.idx 2) [v1, v5] fun v9 =>
 (OP (.eqs true [true, true]) [v0.cellAt v8 0, v0.cellAt v8 1, v1.cellAt v9 0, v1.cellAt v9 1] fun v10 =>
 (ITE v10
 (Q [bb false])
 (OP (.bin .add) [v5, I 1] fun v11 =>
 (N0 [v11]))))))
 (Q [bb true])))))))))
def S_bkeep_Kids (ρ : Fns) (v0 v1 : PV) (Q : List PV → Prop) : Prop :=
 (OP .len [v0] fun v2 =>
 (OP .len [v1] fun v3 =>
 (OP (.bin .neq) [v2, v3] fun v4 =>
 (ITE v4
 (Q [bb false])
 (LOOP 1 [I 0] fun N0 v5 =>
 (OP .len [v0] fun v6 =>
 (OP (.bin .lss) [v5, v6] fun v7 =>
 (ITE v7
 (OP (.idx 3) [v0, v5] fun v8 =>
 (OP (.idx 3) [v1, v5] fun v9 =>
 (OP (.eqs true [true, true, true]) [v0.cellAt v8 0, v0.cellAt v8 1, v0.cellAt v8 2, v1.cellAt v9 0, v1.cellAt v9 1, v1.cellAt v9 2] fun v10 =>
 (ITE v10
 (Q [bb false])
 (OP (.bin .add) [v5, I 1] fun v11 =>
 (N0 [v11]))))))
 (Q [bb true])))))))))
def S_bkeep_Items (ρ : Fns) (v0 v1 : PV) (Q : List PV → Prop) : Prop :=
 (OP .len [v0] fun v2 =>
 (OP .len [v1] fun v3 =>
 (OP (.bin .neq) [v2, v3] fun v4 =>
 (ITE v4
 (Q [bb false])
 (LOOP 1 [I 0] fun N0 v5 =>
 (OP .len [v0] fun v6 =>
 (OP (.bin .lss) [v5, v6] fun v7 =>
 (ITE v7
 (OP (.idx 2) [v0, v5] fun v8 =>
 (OP (.idx 2) [v1, v5] fun v9 =>
 (OP (.eqs true [true, true]) [v0.cellAt v8 0, v0.cellAt v8 1, v1.cellAt v9 0, v1.cellAt v9 1] fun v10 =>
 (ITE v10
 (Q [bb false])
 (OP (.bin .add) [v5, I 1] fun v11 =>
 (N0 [v11]))))))
 (Q [bb true])))))))))
def S_bkeep_Events (ρ : Fns) (v0 v1 : PV) (Q : List PV → Prop) : Prop :=
 (OP .len [v0] fun v2 =>
 (OP .len [v1] fun v3 =>
 (OP (.bin .neq) [v2, v3] fun v4 =>
 (ITE v4
 (Q [bb false])
 (LOOP 1 [I 0] fun N0 v5 =>
 (OP .len [v0] fun v6 =>
 (OP (.bin .lss) [v5, v6] fun v7 =>
 (ITE v7
 (OP (.idx 6) [v0, v5] fun v8 =>
 (OP (.idx 6) [v1, v5] fun v9 =>
 (OP (.eqs true [true, true, true, true, true, true]) [v0.cellAt v8 0, v0.cellAt v8 1, v0.cellAt v8 2, v0.cellAt v8 3, v0.cellAt v8 4, v0.cellAt v8 5, v1.cellAt v9 0, v1.cellAt v9 1, v1.cellAt v9 2, v1.cellAt v9 3, v1.cellAt v9 4, v1.cellAt v9 5] fun v10 =>
 (ITE v10
 (Q [bb false])
 (OP (.bin .add) [v5, I 1] fun v11 =>
 (N0 [v11]))))))
 (Q [bb true])))))))))
def S_bkeep_Bytes (ρ : Fns) (v0 v1 : PV) (Q : List PV → Prop) : Prop :=
 (OP .len [v0] fun v2 =>
 (OP .len [v1] fun v3 =>
 (OP (.bin .neq) [v2, v3] fun v4 =>
 (ITE v4
 (Q [bb false])
 (LOOP 1 [I 0] fun N0 v5 =>
 (OP .len [v0] fun v6 =>
 (OP (.bin .lss) [v5, v6] fun v7 =>
 (ITE v7
 (OP (.idx 1) [v0, v5] fun v8 =>
 (OP (.idx 1) [v1, v5] fun v9 =>
 (OP (.bin .neq) [v0.cellAt v8 0, v1.cellAt v9 0] fun v10 =>
 (ITE v10
 (Q [bb false])
 (OP (.bin .add) [v5, I 1] fun v11 =>
 (N0 [v11]))))))
 (Q [bb true])))))))))
def S_bkeep_Frame (ρ : Fns) (v0 v1 v2 v3 : PV) (Q : List PV → Prop) : Prop :=
 (OP (.bin .eql) [v0, v2] fun v4 =>
 (ITE v4
 (CALL ρ 94 [v1, v3] 1 fun v5 =>
 (Q [v5]))
 (Q [bb false])))
def S_bkeep_Frames (ρ : Fns) (v0 v1 : PV) (Q : List PV → Prop) : Prop :=
 (OP .len [v0] fun v2 =>
 (OP .len [v1] fun v3 =>
 (OP (.bin .neq) [v2, v3] fun v4 =>
 (ITE v4
 (Q [bb false])
 (LOOP 1 [I 0] fun N0 v5 =>
 (OP .len [v0] fun v6 =>
 (OP (.bin .lss) [v5, v6] fun v7 =>
 (ITE v7
 (OP (.idx 2) [v0, v5] fun v8 =>
 (OP (.idx 2) [v1, v5] fun v9 =>
 (CALL ρ 58 [v0.cellAt v8 0, v0.cellAt v8 1, v1.cellAt v9 0, v1.cellAt v9 1] 1 fun v10 =>
 (OP (.un .not) [v10] fun v11 =>
 (ITE v11
 (Q [bb false])
 (OP (.bin .add) [v5, I 1] fun v12 =>
 (N0 [v12])))))))
 (Q [bb true])))))))))
def S_bkeep_Stream (ρ : Fns) (v0 v1 v2 v3 v4 v5 v6 v7 v8 v9 : PV) (Q : List PV → Prop) : Prop :=
 (OP (.bin .eql) [v0, v5] fun v10 =>
 (ITE v10
 (OP (.bin .eql) [v1, v6] fun v11 =>
 (ITE v11
 (OP (.bin .eql) [v2, v7] fun v12 =>
 (ITE v12
 (CALL ρ 125 [v3, v8] 1 fun v13 =>
 (ITE v13
 (CALL ρ 125 [v4, v9] 1 fun v14 =>
 (Q [v14]))
 (Q [bb false])))
 (Q [bb false])))
 (Q [bb false])))
 (Q [bb false])))
def S_bkeep_Topic (ρ : Fns) (v0 v1 v2 v3 v4 v5 v6 v7 v8 v9 v10 v11 v12 v13 v14 v15 v16 v17 v18 v19 v20 v21 v22 v23 v24 v25 v26 v27 v28 v29 v30 v31 : PV) (Q : List PV → Prop) : Prop :=
 (OP (.beq false) [v0, v16] fun v32 =>
 (ITE v32
 (OP (.beq false) [v1, v17] fun v33 =>
 (ITE v33
 (OP (.bin .eql) [v2, v18] fun v34 =>
 (ITE v34
 (OP (.bin .eql) [v3, v19] fun v35 =>
 (ITE v35
 (OP (.bin .eql) [v4, v20] fun v36 =>
 (ITE v36
 (OP (.bin .eql) [v5, v21] fun v37 =>
 (ITE v37
 (OP (.bin .eql) [v6, v22] fun v38 =>
 (ITE v38
 (OP (.bin .eql) [v7, v23] fun v39 =>
 (ITE v39
 (CALL ρ 17 [v8, v24] 1 fun v40 =>
 (ITE v40
 (CALL ρ 95 [v9, v25] 1 fun v41 =>
 (ITE v41
 (CALL ρ 96 [v10, v11, v12, v13, v14, v26, v27, v28, v29, v30] 1 fun v42 =>
 (ITE v42
 (CALL ρ 97 [v15, v31] 1 fun v43 =>
 (Q [v43]))
 (Q [bb false])))
 (Q [bb false])))
 (Q [bb false])))
 (Q [bb false])))
 (Q [bb false])))
 (Q [bb false])))
 (Q [bb false])))
 (Q [bb false])))
 (Q [bb false])))
 (Q [bb false])))
 (Q [bb false])))
def S_bkeep_Node (ρ : Fns) (v0 v1 v2 v3 v4 v5 v6 v7 v8 v9 v10 v11 v12 v13 v14 v15 v16 v17 : PV) (Q : List PV → Prop) : Prop :=
 (SUB 1 (fun R =>
 (OP (.beq true) [v0, v9] fun v18 =>
 (ITE v18
 (R [bb true])
 (OP (.bin .neq) [v1, v10] fun v19 =>
 (ITE v19
 (R [bb true])
 (CALL ρ 59 [v2, v11] 1 fun v20 =>
 (OP (.un .not) [v20] fun v21 =>
 (ITE v21
 (R [bb true])
 (OP .len [v3] fun v22 =>
 (OP .len [v12] fun v23 =>
 (OP (.bin .neq) [v22, v23] fun v24 =>
 (ITE v24
 (R [bb true])
 (OP .len [v4] fun v25 =>
 (OP .len [v13] fun v26 =>
 (OP (.bin .neq) [v25, v26] fun v27 =>
 (ITE v27
 (R [bb true])
 (OP (.bin .neq) [v5, v14] fun v28 =>
 (ITE v28
 (R [bb true])
 (OP (.bin .neq) [v6, v15] fun v29 =>
 (ITE v29
 (R [bb true])
 (OP .len [v7] fun v30 =>
 (OP .len [v16] fun v31 =>
 (OP (.bin .neq) [v30, v31] fun v32 =>
 (ITE v32
 (R [bb true])
 (OP .len [v8] fun v33 =>
 (OP .len [v17] fun v34 =>
 (OP (.bin .neq) [v33, v34] fun v35 =>
 (R [v35])))))))))))))))))))))))))))) fun v18 =>
 (ITE v18
 (Q [bb false])
 (LOOP 1 [I 0] fun N0 v19 =>
 (OP .len [v3] fun v20 =>
 (OP (.bin .lss) [v19, v20] fun v21 =>
 (ITE v21
 (OP (.idx 16) [v3, v19] fun v22 =>
 (OP (.idx 16) [v12, v19] fun v23 =>
 (CALL ρ 60 [v3.cellAt v22 0, v3.cellAt v22 1, v3.cellAt v22 2, v3.cellAt v22 3, v3.cellAt v22 4, v3.cellAt v22 5, v3.cellAt v22 6, v3.cellAt v22 7, v3.cellAt v22 8, v3.cellAt v22 9, v3.cellAt v22 10, v3.cellAt v22 11, v3.cellAt v22 12, v3.cellAt v22 13, v3.cellAt v22 14, v3.cellAt v22 15, v12.cellAt v23 0, v12.cellAt v23 1, v12.cellAt v23 2, v12.cellAt v23 3, v12.cellAt v23 4, v12.cellAt v23 5, v12.cellAt v23 6, v12.cellAt v23 7, v12.cellAt v23 8, v12.cellAt v23 9, v12.cellAt v23 10, v12.cellAt v23 11, v12.cellAt v23 12, v12.cellAt v23 13, v12.cellAt v23 14, v12.cellAt v23 15] 1 fun v24 =>
 (OP (.un .not) [v24] fun v25 =>
 (ITE v25
 (Q [bb false])
 (OP (.bin .add) [v19, I 1] fun v26 =>
 (N0 [v26])))))))
 (LOOP 1 [I 0] fun N1 v22 =>
 (OP .len [v4] fun v23 =>
 (OP (.bin .lss) [v22, v23] fun v24 =>
 (ITE v24
 (OP (.idx 3) [v4, v22] fun v25 =>
 (OP (.idx 3) [v13, v22] fun v26 =>
 (OP (.eqs true [true, true, true]) [v4.cellAt v25 0, v4.cellAt v25 1, v4.cellAt v25 2, v13.cellAt v26 0, v13.cellAt v26 1, v13.cellAt v26 2] fun v27 =>
 (ITE v27
 (Q [bb false])
 (OP (.bin .add) [v22, I 1] fun v28 =>
 (N1 [v28]))))))
 (LOOP 1 [I 0] fun N2 v25 =>
 (OP .len [v7] fun v26 =>
 (OP (.bin .lss) [v25, v26] fun v27 =>
 (ITE v27
 (OP (.idx 3) [v7, v25] fun v28 =>
 (OP (.idx 3) [v16, v25] fun v29 =>
 (OP (.eqs true [true, true, true]) [v7.cellAt v28 0, v7.cellAt v28 1, v7.cellAt v28 2, v16.cellAt v29 0, v16.cellAt v29 1, v16.cellAt v29 2] fun v30 =>
 (ITE v30
 (Q [bb false])
 (OP (.bin .add) [v25, I 1] fun v31 =>
 (N2 [v31]))))))
 (LOOP 1 [I 0] fun N3 v28 =>
 (OP .len [v8] fun v29 =>
 (OP (.bin .lss) [v28, v29] fun v30 =>
 (ITE v30
 (OP (.idx 5) [v8, v28] fun v31 =>
 (OP (.idx 5) [v17, v28] fun v32 =>
 (OP (.eqs true [true, true, true, true, true]) [v8.cellAt v31 0, v8.cellAt v31 1, v8.cellAt v31 2, v8.cellAt v31 3, v8.cellAt v31 4, v17.cellAt v32 0, v17.cellAt v32 1, v17.cellAt v32 2, v17.cellAt v32 3, v17.cellAt v32 4] fun v33 =>
 (ITE v33
 (Q [bb false])
 (OP (.bin .add) [v28, I 1] fun v34 =>
 (N3 [v34]))))))
 (Q [bb true])))))))))))))))))))
def S_bkeep_World (ρ : Fns) (v0 v1 v2 v3 : PV) (Q : List PV → Prop) : Prop :=
 (SUB 1 (fun R =>
 (OP .len [v0] fun v4 =>
 (OP .len [v2] fun v5 =>
 (OP (.bin .neq) [v4, v5] fun v6 =>
 (ITE v6
 (R [bb true])
 (CALL ρ 35 [v1, v3] 1 fun v7 =>
 (OP (.un .not) [v7] fun v8 =>
 (R [v8])))))))) fun v4 =>
 (ITE v4
 (Q [bb false])
 (LOOP 1 [I 0] fun N0 v5 =>
 (OP .len [v0] fun v6 =>
 (OP (.bin .lss) [v5, v6] fun v7 =>
 (ITE v7
 (OP (.idx 9) [v0, v5] fun v8 =>
 (OP (.idx 9) [v2, v5] fun v9 =>
 (CALL ρ 36 [v0.cellAt v8 0, v0.cellAt v8 1, v0.cellAt v8 2, v0.cellAt v8 3, v0.cellAt v8 4, v0.cellAt v8 5, v0.cellAt v8 6, v0.cellAt v8 7, v0.cellAt v8 8, v2.cellAt v9 0, v2.cellAt v9 1, v2.cellAt v9 2, v2.cellAt v9 3, v2.cellAt v9 4, v2.cellAt v9 5, v2.cellAt v9 6, v2.cellAt v9 7, v2.cellAt v9 8] 1 fun v10 =>
 (OP (.un .not) [v10] fun v11 =>
 (ITE v11
 (Q [bb false])
 (OP (.bin .add) [v5, I 1] fun v12 =>
 (N0 [v12])))))))
 (Q [bb true])))))))
def S_bkeep_TwinKids (ρ : Fns) (v0 : PV) (Q : List PV → Prop) : Prop :=
 (OP (.app 3 24) [.list [], v0] fun v1 =>
 (Q [v1]))
def S_bkeep_TwinItems (ρ : Fns) (v0 : PV) (Q : List PV → Prop) : Prop :=
 (OP (.app 2 16) [.list [], v0] fun v1 =>
 (Q [v1]))
def S_bkeep_TwinEvents (ρ : Fns) (v0 : PV) (Q : List PV → Prop) : Prop :=
 (OP (.app 6 48) [.list [], v0] fun v1 =>
 (Q [v1]))
def S_bkeep_TwinPeers (ρ : Fns) (v0 : PV) (Q : List PV → Prop) : Prop :=
 (OP (.app 2 16) [.list [], v0] fun v1 =>
 (Q [v1]))
def S_bkeep_Twin (ρ : Fns) (v0 : PV) (Q : List PV → Prop) : Prop :=
 (OP (.app 1 1) [.list [], v0] fun v1 =>
 (Q [v1]))
def S_bkeep_TwinStream (ρ : Fns) (v0 v1 v2 v3 v4 : PV) (Q : List PV → Prop) : Prop :=
 (CALL ρ 104 [v3] 1 fun v5 =>
 (CALL ρ 104 [v4] 1 fun v6 =>
 (Q [v0, v1, v2, v5, v6])))
def S_bkeep_TwinTopic (ρ : Fns) (v0 v1 v2 v3 v4 v5 v6 v7 v8 v9 v10 v11 v12 v13 v14 v15 : PV) (Q : List PV → Prop) : Prop :=
 (CALL ρ 70 [v8] 1 fun v16 =>
 (CALL ρ 71 [v9] 1 fun v17 =>
 (CALL ρ 72 [v10, v11, v12, v13, v14] 5 fun v18 v19 v20 v21 v22 =>
 (CALL ρ 73 [v15] 1 fun v23 =>
 (Q [v0, v1, v2, v3, v4, v5, v6, v7, v16, v17, v18, v19, v20, v21, v22, v23])))))
def S_bkeep_TwinNode (ρ : Fns) (v0 v1 v2 v3 v4 v5 v6 v7 v8 : PV) (Q : List PV → Prop) : Prop :=
 (CALL ρ 45 [v2] 1 fun v9 =>
 (LOOP 2 [I 0, .list []] fun N0 v10 v11 =>
 (OP .len [v3] fun v12 =>
 (OP (.bin .lss) [v10, v12] fun v13 =>
 (ITE v13
 (OP (.idx 16) [v3, v10] fun v14 =>
 (CALL ρ 46 [v3.cellAt v14 0, v3.cellAt v14 1, v3.cellAt v14 2, v3.cellAt v14 3, v3.cellAt v14 4, v3.cellAt v14 5, v3.cellAt v14 6, v3.cellAt v14 7, v3.cellAt v14 8, v3.cellAt v14 9, v3.cellAt v14 10, v3.cellAt v14 11, v3.cellAt v14 12, v3.cellAt v14 13, v3.cellAt v14 14, v3.cellAt v14 15] 16 fun v15 v16 v17 v18 v19 v20 v21 v22 v23 v24 v25 v26 v27 v28 v29 v30 =>
 (OP (.rows 16) [v15, v16, v17, v18, v19, v20, v21, v22, v23, v24, v25, v26, v27, v28, v29, v30] fun v31 =>
 (OP (.app 16 200) [v11, v31] fun v32 =>
 (OP (.bin .add) [v10, I 1] fun v33 =>
 (N0 [v33, v32]))))))
 (OP (.app 3 24) [.list [], v4] fun v14 =>
 (OP (.app 3 24) [.list [], v7] fun v15 =>
 (OP (.app 5 40) [.list [], v8] fun v16 =>
 (Q [v0, v1, v9, v11, v14, v5, v6, v15, v16])))))))))
def S_bkeep_TwinFrames (ρ : Fns) (v0 : PV) (Q : List PV → Prop) : Prop :=
 (LOOP 2 [I 0, .list []] fun N0 v1 v2 =>
 (OP .len [v0] fun v3 =>
 (OP (.bin .lss) [v1, v3] fun v4 =>
 (ITE v4
 (OP (.idx 2) [v0, v1] fun v5 =>
 (OP (.idx 2) [v0, v1] fun v6 =>
 (CALL ρ 47 [v0.cellAt v6 1] 1 fun v7 =>
 (OP (.rows 2) [v0.cellAt v5 0, v7] fun v8 =>
 (OP (.app 2 32) [v2, v8] fun v9 =>
 (OP (.bin .add) [v1, I 1] fun v10 =>
 (N0 [v10, v9])))))))
 (Q [v2])))))
def S_bkeep_TwinWorld (ρ : Fns) (v0 v1 : PV) (Q : List PV → Prop) : Prop :=
 (LOOP 2 [I 0, .list []] fun N0 v2 v3 =>
 (OP .len [v0] fun v4 =>
 (OP (.bin .lss) [v2, v4] fun v5 =>
 (ITE v5
 (OP (.idx 9) [v0, v2] fun v6 =>
 (CALL ρ 22 [v0.cellAt v6 0, v0.cellAt v6 1, v0.cellAt v6 2, v0.cellAt v6 3, v0.cellAt v6 4, v0.cellAt v6 5, v0.cellAt v6 6, v0.cellAt v6 7, v0.cellAt v6 8] 9 fun v7 v8 v9 v10 v11 v12 v13 v14 v15 =>
 (OP (.rows 9) [v7, v8, v9, v10, v11, v12, v13, v14, v15] fun v16 =>
 (OP (.app 9 152) [v3, v16] fun v17 =>
 (OP (.bin .add) [v2, I 1] fun v18 =>
 (N0 [v18, v17]))))))
 (CALL ρ 23 [v1] 1 fun v6 =>
 (Q [v3, v6]))))))
def S_law18_Heavy (ρ : Fns) (v0 v1 v2 v3 v4 v5 : PV) (Q : List PV → Prop) : Prop :=
 (OP .len [v3] fun v6 =>
 (OP (.bin .gtr) [v6, I 30] fun v7 =>
 (ITE v7
 (Q [bb true])
 (OP .len [v4] fun v8 =>
 (OP (.bin .gtr) [v8, I 30] fun v9 =>
 (ITE v9
 (Q [bb true])
 (OP .len [v5] fun v10 =>
 (OP (.bin .gtr) [v10, I 50] fun v11 =>
 (Q [v11])))))))))
def S_law19_Heavy (ρ : Fns) (v0 v1 v2 v3 v4 v5 v6 v7 v8 v9 v10 v11 v12 v13 v14 v15 : PV) (Q : List PV → Prop) : Prop :=
 (OP .len [v8] fun v16 =>
 (OP (.bin .gtr) [v16, I 20] fun v17 =>
 (ITE v17
 (Q [bb true])
 (OP .len [v9] fun v18 =>
 (OP (.bin .gtr) [v18, I 20] fun v19 =>
 (ITE v19
 (Q [bb true])
 (CALL ρ 69 [v10, v11, v12, v13, v14, v15] 1 fun v20 =>
 (Q [v20]))))))))
def S_law21_Heavy (ρ : Fns) (v0 v1 v2 v3 v4 v5 v6 v7 v8 : PV) (Q : List PV → Prop) : Prop :=
 (SUB 1 (fun R =>
 (OP .len [v2] fun v9 =>
 (OP (.bin .gtr) [v9, I 12] fun v10 =>
 (ITE v10
 (R [bb true])
 (OP .len [v3] fun v11 =>
 (OP (.bin .gtr) [v11, I 8] fun v12 =>
 (ITE v12
 (R [bb true])
 (OP .len [v4] fun v13 =>
 (OP (.bin .gtr) [v13, I 60] fun v14 =>
 (ITE v14
 (R [bb true])
 (OP .len [v7] fun v15 =>
 (OP (.bin .gtr) [v15, I 12] fun v16 =>
 (ITE v16
 (R [bb true])
 (OP .len [v8] fun v17 =>
 (OP (.bin .gtr) [v17, I 80] fun v18 =>
 (R [v18])))))))))))))))) fun v9 =>
 (ITE v9
 (Q [bb true])
 (LOOP 1 [I 0] fun N0 v10 =>
 (OP .len [v3] fun v11 =>
 (OP (.bin .lss) [v10, v11] fun v12 =>
 (ITE v12
 (OP (.idx 16) [v3, v10] fun v13 =>
 (CALL ρ 44 [v3.cellAt v13 0, v3.cellAt v13 1, v3.cellAt v13 2, v3.cellAt v13 3, v3.cellAt v13 4, v3.cellAt v13 5, v3.cellAt v13 6, v3.cellAt v13 7, v3.cellAt v13 8, v3.cellAt v13 9, v3.cellAt v13 10, v3.cellAt v13 11, v3.cellAt v13 12, v3.cellAt v13 13, v3.cellAt v13 14, v3.cellAt v13 15] 1 fun v14 =>
 (ITE v14
 (Q [bb true])
 (OP (.bin .add) [v10, I 1] fun v15 =>
 (N0 [v15])))))
 (Q [bb false])))))))
def S_law08_Heavy (ρ : Fns) (v0 : PV) (Q : List PV → Prop) : Prop :=
 (SUB 1 (fun R =>
 (OP .len [v0] fun v1 =>
 (OP (.bin .gtr) [v1, I 60] fun v2 =>
 (ITE v2
 (OP .len [v0] fun v3 =>
 (OP (.bin .lss) [v3, I 300] fun v4 =>
 (ITE v4
 (R [bb true])
 (OP .len [v0] fun v5 =>
 (OP (.bin .gtr) [v5, I 303] fun v6 =>
 (R [v6]))))))
 (OP .len [v0] fun v3 =>
 (OP (.bin .gtr) [v3, I 303] fun v4 =>
 (R [v4]))))))) fun v1 =>
 (ITE v1
 (Q [bb true])
 (LOOP 1 [I 0] fun N0 v2 =>
 (OP .len [v0] fun v3 =>
 (OP (.bin .lss) [v2, v3] fun v4 =>
 (ITE v4
 (OP (.idx 2) [v0, v2] fun v5 =>
 (OP .len [v0.cellAt v5 1] fun v6 =>
 (OP (.bin .gtr) [v6, I 200] fun v7 =>
 (ITE v7
 (Q [bb true])
 (OP (.bin .add) [v2, I 1] fun v8 =>
 (N0 [v8]))))))
 (Q [bb false])))))))
def S_law25_Heavy (ρ : Fns) (v0 v1 : PV) (Q : List PV → Prop) : Prop :=
 (SUB 1 (fun R =>
 (OP .len [v0] fun v2 =>
 (OP (.bin .gtr) [v2, I 10] fun v3 =>
 (ITE v3
 (R [bb true])
 (OP .len [v1] fun v4 =>
 (OP (.bin .gtr) [v4, I 303] fun v5 =>
 (R [v5]))))))) fun v2 =>
 (ITE v2
 (Q [bb true])
 (LOOP 1 [I 0] fun N0 v3 =>
 (OP .len [v0] fun v4 =>
 (OP (.bin .lss) [v3, v4] fun v5 =>
 (ITE v5
 (OP (.idx 9) [v0, v3] fun v6 =>
 (CALL ρ 20 [v0.cellAt v6 0, v0.cellAt v6 1, v0.cellAt v6 2, v0.cellAt v6 3, v0.cellAt v6 4, v0.cellAt v6 5, v0.cellAt v6 6, v0.cellAt v6 7, v0.cellAt v6 8] 1 fun v7 =>
 (ITE v7
 (Q [bb true])
 (OP (.bin .add) [v3, I 1] fun v8 =>
 (N0 [v8])))))
 (OP .len [v1] fun v6 =>
 (OP (.bin .leq) [v6, I 60] fun v7 =>
 (ITE v7
 (CALL ρ 21 [v1] 1 fun v8 =>
 (Q [v8]))
 (Q [bb false]))))))))))
def S_bag_right (ρ : Fns) (v0 v1 : PV) (Q : List PV → Prop) : Prop :=
 (CALL ρ 108 [v0] 1 fun v2 =>
 (ITE v2
 (OP .len [v1] fun v3 =>
 (OP (.bin .leq) [v3, I 80] fun v4 =>
 (Q [v4])))
 (Q [bb false])))
def S_bag_Check (ρ : Fns) (v0 : PV) (Q : List PV → Prop) : Prop :=
 (OP .len [v0] fun v1 =>
 (OP (.bin .gtr) [v1, I 300] fun v2 =>
 (ITE v2
 (Q [I 2])
 (OP .len [v0] fun v3 =>
 (LOOP 1 [I 0] fun N0 v4 =>
 (OP (.bin .lss) [v4, v3] fun v5 =>
 (ITE v5
 (OP (.idx 2) [v0, v4] fun v6 =>
 (CALL ρ 82 [v0.cellAt v6 0, v0.cellAt v6 1] 1 fun v7 =>
 (OP (.un .not) [v7] fun v8 =>
 (ITE v8
 (OP (.bin .geq) [v4, I 0] fun v9 =>
 (ITE v9
 (Q [I 1])
 (Q [I 0])))
 (OP (.bin .add) [v4, I 1] fun v9 =>
 (N0 [v9]))))))
 (OP (.bin .geq) [I (-1), I 0] fun v6 =>
 (ITE v6
 (Q [I 1])
 (Q [I 0]))))))))))
def S_ref01_Frame (ρ : Fns) (v0 v1 : PV) (Q : List PV → Prop) : Prop :=
 (CALL ρ 43 [v0] 1 fun v2 =>
 (ITE v2
 (OP .len [v1] fun v3 =>
 (OP (.bin .leq) [v3, I 80] fun v4 =>
 (Q [v4])))
 (Q [bb false])))
def S_ref01_Bag (ρ : Fns) (v0 : PV) (Q : List PV → Prop) : Prop :=
 (OP .len [v0] fun v1 =>
 (OP (.bin .gtr) [v1, I 300] fun v2 =>
 (ITE v2
 (Q [I 2])
 (LOOP 1 [I 0] fun N0 v3 =>
 (OP .len [v0] fun v4 =>
 (OP (.bin .lss) [v3, v4] fun v5 =>
 (ITE v5
 (OP (.idx 2) [v0, v3] fun v6 =>
 (CALL ρ 61 [v0.cellAt v6 0, v0.cellAt v6 1] 1 fun v7 =>
 (OP (.un .not) [v7] fun v8 =>
 (ITE v8
 (Q [I 1])
 (OP (.bin .add) [v3, I 1] fun v9 =>
 (N0 [v9]))))))
 (Q [I 0]))))))))
def S_world_bare (ρ : Fns) (v0 v1 v2 v3 v4 v5 v6 v7 v8 v9 v10 v11 v12 v13 v14 v15 : PV) (Q : List PV → Prop) : Prop :=
 (SUB 1 (fun R =>
 (OP (.bin .eql) [v3, I 0] fun v16 =>
 (ITE v16
 (OP (.bin .eql) [v4, I 0] fun v17 =>
 (ITE v17
 (OP (.bin .eql) [v5, I 0] fun v18 =>
 (ITE v18
 (OP (.bin .eql) [v6, I 0] fun v19 =>
 (ITE v19
 (OP (.bin .eql) [v7, I 0] fun v20 =>
 (R [v20]))
 (R [bb false])))
 (R [bb false])))
 (R [bb false])))
 (R [bb false])))) fun v16 =>
 (SUB 1 (fun R =>
 (OP .len [v8] fun v17 =>
 (OP (.bin .eql) [v17, I 0] fun v18 =>
 (ITE v18
 (OP .len [v9] fun v19 =>
 (OP (.bin .eql) [v19, I 0] fun v20 =>
 (ITE v20
 (OP .len [v15] fun v21 =>
 (OP (.bin .eql) [v21, I 0] fun v22 =>
 (ITE v22
 (OP .len [v13] fun v23 =>
 (OP (.bin .eql) [v23, I 0] fun v24 =>
 (ITE v24
 (OP .len [v14] fun v25 =>
 (OP (.bin .eql) [v25, I 0] fun v26 =>
 (R [v26])))
 (R [bb false]))))
 (R [bb false]))))
 (R [bb false]))))
 (R [bb false]))))) fun v17 =>
 (ITE v16
 (ITE v17
 (OP (.un .not) [v0] fun v18 =>
 (ITE v18
 (OP (.un .not) [v1] fun v19 =>
 (ITE v19
 (OP (.bin .eql) [v10, I 0] fun v20 =>
 (ITE v20
 (OP (.bin .eql) [v11, I 0] fun v21 =>
 (ITE v21
 (OP (.bin .eql) [v12, I 0] fun v22 =>
 (ITE v22
 (OP (.bin .geq) [v2, I 0] fun v23 =>
 (ITE v23
 (OP (.bin .leq) [v2, I 1073741824] fun v24 =>
 (Q [v24]))
 (Q [bb false])))
 (Q [bb false])))
 (Q [bb false])))
 (Q [bb false])))
 (Q [bb false])))
 (Q [bb false])))
 (Q [bb false]))
 (Q [bb false]))))
def S_world_down (ρ : Fns) (v0 v1 v2 v3 v4 v5 v6 v7 v8 v9 v10 v11 v12 v13 v14 v15 : PV) (Q : List PV → Prop) : Prop :=
 (SUB 1 (fun R =>
 (OP .len [v9] fun v16 =>
 (OP (.bin .eql) [v16, v0] fun v17 =>
 (ITE v17
 (OP .len [v10] fun v18 =>
 (OP (.bin .eql) [v18, v1] fun v19 =>
 (ITE v19
 (OP .len [v14] fun v20 =>
 (OP (.bin .eql) [v20, v0] fun v21 =>
 (R [v21])))
 (R [bb false]))))
 (R [bb false]))))) fun v16 =>
 (SUB 1 (fun R =>
 (OP .len [v11] fun v17 =>
 (OP (.bin .eql) [v17, I 0] fun v18 =>
 (ITE v18
 (OP .len [v15] fun v19 =>
 (OP (.bin .eql) [v19, I 0] fun v20 =>
 (ITE v20
 (OP (.bin .eql) [v12, I 0] fun v21 =>
 (ITE v21
 (OP (.bin .eql) [v13, I 0] fun v22 =>
 (R [v22]))
 (R [bb false])))
 (R [bb false]))))
 (R [bb false]))))) fun v17 =>
 (OP .len [v9] fun v18 =>
 (LOOP 1 [I 0] fun N0 v19 =>
 (OP (.bin .lss) [v19, v18] fun v20 =>
 (ITE v20
 (OP (.idx 2) [v9, v19] fun v21 =>
 (OP (.eqs true [true, true]) [v9.cellAt v21 0, v9.cellAt v21 1, I 0, I 0] fun v22 =>
 (ITE v22
 (OP (.bin .geq) [v19, I 0] fun v23 =>
 (OP .len [v14] fun v24 =>
 (LOOP 1 [I 0] fun N1 v25 =>
 (OP (.bin .lss) [v25, v24] fun v26 =>
 (ITE v26
 (OP (.idx 3) [v14, v25] fun v27 =>
 (OP (.eqs true [true, true, true]) [v14.cellAt v27 0, v14.cellAt v27 1, v14.cellAt v27 2, I 0, I 0, I 0] fun v28 =>
 (ITE v28
 (OP (.bin .geq) [v25, I 0] fun v29 =>
 (OP .len [v10] fun v30 =>
 (LOOP 1 [I 0] fun N2 v31 =>
 (OP (.bin .lss) [v31, v30] fun v32 =>
 (ITE v32
 (OP (.idx 16) [v10, v31] fun v33 =>
 (CALL ρ 90 [v10.cellAt v33 0, v10.cellAt v33 1, v10.cellAt v33 2, v10.cellAt v33 3, v10.cellAt v33 4, v10.cellAt v33 5, v10.cellAt v33 6, v10.cellAt v33 7, v10.cellAt v33 8, v10.cellAt v33 9, v10.cellAt v33 10, v10.cellAt v33 11, v10.cellAt v33 12, v10.cellAt v33 13, v10.cellAt v33 14, v10.cellAt v33 15] 1 fun v34 =>
 (OP (.un .not) [v34] fun v35 =>
 (ITE v35
 (OP (.bin .geq) [v31, I 0] fun v36 =>
 (ITE v16
 (ITE v17
 (OP (.un .not) [v23] fun v37 =>
 (ITE v37
 (OP (.un .not) [v29] fun v38 =>
 (ITE v38
 (OP (.un .not) [v36] fun v39 =>
 (ITE v39
 (CALL ρ 91 [v8] 1 fun v40 =>
 (Q [v40]))
 (Q [bb false])))
 (Q [bb false])))
 (Q [bb false])))
 (Q [bb false]))
 (Q [bb false])))
 (OP (.bin .add) [v31, I 1] fun v36 =>
 (N2 [v36]))))))
 (OP (.bin .geq) [I (-1), I 0] fun v33 =>
 (ITE v16
 (ITE v17
 (OP (.un .not) [v23] fun v34 =>
 (ITE v34
 (OP (.un .not) [v29] fun v35 =>
 (ITE v35
 (OP (.un .not) [v33] fun v36 =>
 (ITE v36
 (CALL ρ 91 [v8] 1 fun v37 =>
 (Q [v37]))
 (Q [bb false])))
 (Q [bb false])))
 (Q [bb false])))
 (Q [bb false]))
 (Q [bb false]))))))))
 (OP (.bin .add) [v25, I 1] fun v29 =>
 (N1 [v29])))))
 (OP (.bin .geq) [I (-1), I 0] fun v27 =>
 (OP .len [v10] fun v28 =>
 (LOOP 1 [I 0] fun N2 v29 =>
 (OP (.bin .lss) [v29, v28] fun v30 =>
 (ITE v30
 (OP (.idx 16) [v10, v29] fun v31 =>
 (CALL ρ 90 [v10.cellAt v31 0, v10.cellAt v31 1, v10.cellAt v31 2, v10.cellAt v31 3, v10.cellAt v31 4, v10.cellAt v31 5, v10.cellAt v31 6, v10.cellAt v31 7, v10.cellAt v31 8, v10.cellAt v31 9, v10.cellAt v31 10, v10.cellAt v31 11, v10.cellAt v31 12, v10.cellAt v31 13, v10.cellAt v31 14, v10.cellAt v31 15] 1 fun v32 =>
 (OP (.un .not) [v32] fun v33 =>
 (ITE v33
 (OP (.bin .geq) [v29, I 0] fun v34 =>
 (ITE v16
 (ITE v17
 (OP (.un .not) [v23] fun v35 =>
 (ITE v35
 (OP (.un .not) [v27] fun v36 =>
 (ITE v36
 (OP (.un .not) [v34] fun v37 =>
 (ITE v37
 (CALL ρ 91 [v8] 1 fun v38 =>
 (Q [v38]))
 (Q [bb false])))
 (Q [bb false])))
 (Q [bb false])))
 (Q [bb false]))
 (Q [bb false])))
 (OP (.bin .add) [v29, I 1] fun v34 =>
 (N2 [v34]))))))
 (OP (.bin .geq) [I (-1), I 0] fun v31 =>
 (ITE v16
 (ITE v17
 (OP (.un .not) [v23] fun v32 =>
 (ITE v32
 (OP (.un .not) [v27] fun v33 =>
 (ITE v33
 (OP (.un .not) [v31] fun v34 =>
 (ITE v34
 (CALL ρ 91 [v8] 1 fun v35 =>
 (Q [v35]))
 (Q [bb false])))
 (Q [bb false])))
 (Q [bb false])))
 (Q [bb false]))
 (Q [bb false])))))))))))))
 (OP (.bin .add) [v19, I 1] fun v23 =>
 (N0 [v23])))))
 (OP (.bin .geq) [I (-1), I 0] fun v21 =>
 (OP .len [v14] fun v22 =>
 (LOOP 1 [I 0] fun N1 v23 =>
 (OP (.bin .lss) [v23, v22] fun v24 =>
 (ITE v24
 (OP (.idx 3) [v14, v23] fun v25 =>
 (OP (.eqs true [true, true, true]) [v14.cellAt v25 0, v14.cellAt v25 1, v14.cellAt v25 2, I 0, I 0, I 0] fun v26 =>
 (ITE v26
 (OP (.bin .geq) [v23, I 0] fun v27 =>
 (OP .len [v10] fun v28 =>
 (LOOP 1 [I 0] fun N2 v29 =>
 (OP (.bin .lss) [v29, v28] fun v30 =>
 (ITE v30
 (OP (.idx 16) [v10, v29] fun v31 =>
 (CALL ρ 90 [v10.cellAt v31 0, v10.cellAt v31 1, v10.cellAt v31 2, v10.cellAt v31 3, v10.cellAt v31 4, v10.cellAt v31 5, v10.cellAt v31 6, v10.cellAt v31 7, v10.cellAt v31 8, v10.cellAt v31 9, v10.cellAt v31 10, v10.cellAt v31 11, v10.cellAt v31 12, v10.cellAt v31 13, v10.cellAt v31 14, v10.cellAt v31 15] 1 fun v32 =>
 (OP (.un .not) [v32] fun v33 =>
 (ITE v33
 (OP (.bin .geq) [v29, I 0] fun v34 =>
 (ITE v16
 (ITE v17
 (OP (.un .not) [v21] fun v35 =>
 (ITE v35
 (OP (.un .not) [v27] fun v36 =>
 (ITE v36
 (OP (.un .not) [v34] fun v37 =>
 (ITE v37
 (CALL ρ 91 [v8] 1 fun v38 =>
 (Q [v38]))
 (Q [bb false])))
 (Q [bb false])))
 (Q [bb false])))
 (Q [bb false]))
 (Q [bb false])))
 (OP (.bin .add) [v29, I 1] fun v34 =>
 (N2 [v34]))))))
 (OP (.bin .geq) [I (-1), I 0] fun v31 =>
 (ITE v16
 (ITE v17
 (OP (.un .not) [v21] fun v32 =>
 (ITE v32
 (OP (.un .not) [v27] fun v33 =>
 (ITE v33
 (OP (.un .not) [v31] fun v34 =>
 (ITE v34
 (CALL ρ 91 [v8] 1 fun v35 =>
 (Q [v35]))
 (Q [bb false])))
 (Q [bb false])))
 (Q [bb false])))
 (Q [bb false]))
 (Q [bb false]))))))))
 (OP (.bin .add) [v23, I 1] fun v27 =>
 (N1 [v27])))))
 (OP (.bin .geq) [I (-1), I 0] fun v25 =>
 (OP .len [v10] fun v26 =>
 (LOOP 1 [I 0] fun N2 v27 =>
 (OP (.bin .lss) [v27, v26] fun v28 =>
 (ITE v28
 (OP (.idx 16) [v10, v27] fun v29 =>
 (CALL ρ 90 [v10.cellAt v29 0, v10.cellAt v29 1, v10.cellAt v29 2, v10.cellAt v29 3, v10.cellAt v29 4, v10.cellAt v29 5, v10.cellAt v29 6, v10.cellAt v29 7, v10.cellAt v29 8, v10.cellAt v29 9, v10.cellAt v29 10, v10.cellAt v29 11, v10.cellAt v29 12, v10.cellAt v29 13, v10.cellAt v29 14, v10.cellAt v29 15] 1 fun v30 =>
 (OP (.un .not) [v30] fun v31 =>
 (ITE v31
 (OP (.bin .geq) [v27, I 0] fun v32 =>
 (ITE v16
 (ITE v17
 (OP (.un .not) [v21] fun v33 =>
 (ITE v33
 (OP (.un .not) [v25] fun v34 =>
 (ITE v34
 (OP (.un .not) [v32] fun v35 =>
 (ITE v35
 (CALL ρ 91 [v8] 1 fun v36 =>
 (Q [v36]))
 (Q [bb false])))
 (Q [bb false])))
 (Q [bb false])))
 (Q [bb false]))
 (Q [bb false])))
 (OP (.bin .add) [v27, I 1] fun v32 =>
 (N2 [v32]))))))
 (OP (.bin .geq) [I (-1), I 0] fun v29 =>
 (ITE v16
 (ITE v17
 (OP (.un .not) [v21] fun v30 =>
 (ITE v30
 (OP (.un .not) [v25] fun v31 =>
 (ITE v31
 (OP (.un .not) [v29] fun v32 =>
 (ITE v32
 (CALL ρ 91 [v8] 1 fun v33 =>
 (Q [v33]))
 (Q [bb false])))
 (Q [bb false])))
 (Q [bb false])))
 (Q [bb false]))
 (Q [bb false])))))))))))))))))))
def S_world_Check (ρ : Fns) (v0 v1 v2 v3 v4 v5 v6 v7 v8 : PV) (Q : List PV → Prop) : Prop :=
 (CALL ρ 49 [v0, v1, v2, v3, v4, v5, v6] 1 fun v9 =>
 (OP (.bin .neq) [v9, I 0] fun v10 =>
 (ITE v10
 (Q [v9])
 (SUB 1 (fun R =>
 (OP .len [v7] fun v11 =>
 (OP (.bin .neq) [v11, v0] fun v12 =>
 (ITE v12
 (R [bb true])
 (CALL ρ 50 [v8] 1 fun v13 =>
 (OP (.bin .neq) [v13, I 0] fun v14 =>
 (R [v14]))))))) fun v11 =>
 (ITE v11
 (Q [I 1])
 (OP .len [v7] fun v12 =>
 (LOOP 1 [I 0] fun N0 v13 =>
 (OP (.bin .lss) [v13, v12] fun v14 =>
 (ITE v14
 (OP (.idx 9) [v7, v13] fun v15 =>
 (ITE (v7.cellAt v15 0)
 (CALL ρ 51 [v0, v1, v2, v3, v4, v5, v6, v13, v7.cellAt v15 0, v7.cellAt v15 1, v7.cellAt v15 2, v7.cellAt v15 3, v7.cellAt v15 4, v7.cellAt v15 5, v7.cellAt v15 6, v7.cellAt v15 7, v7.cellAt v15 8] 1 fun v16 =>
 (OP (.bin .neq) [v16, I 0] fun v17 =>
 (ITE v17
 (Q [I 1])
 (OP (.un .not) [v7.cellAt v15 0] fun v18 =>
 (ITE v18
 (CALL ρ 52 [v0, v1, v2, v3, v4, v5, v6, v7.cellAt v15 0, v7.cellAt v15 1, v7.cellAt v15 2, v7.cellAt v15 3, v7.cellAt v15 4, v7.cellAt v15 5, v7.cellAt v15 6, v7.cellAt v15 7, v7.cellAt v15 8] 1 fun v19 =>
 (OP (.un .not) [v19] fun v20 =>
 (ITE v20
 (Q [I 1])
 (OP (.bin .add) [v13, I 1] fun v21 =>
 (N0 [v21])))))
 (OP (.bin .add) [v13, I 1] fun v19 =>
 (N0 [v19])))))))
 (OP (.un .not) [v7.cellAt v15 0] fun v16 =>
 (ITE v16
 (CALL ρ 52 [v0, v1, v2, v3, v4, v5, v6, v7.cellAt v15 0, v7.cellAt v15 1, v7.cellAt v15 2, v7.cellAt v15 3, v7.cellAt v15 4, v7.cellAt v15 5, v7.cellAt v15 6, v7.cellAt v15 7, v7.cellAt v15 8] 1 fun v17 =>
 (OP (.un .not) [v17] fun v18 =>
 (ITE v18
 (Q [I 1])
 (OP (.bin .add) [v13, I 1] fun v19 =>
 (N0 [v19])))))
 (OP (.bin .add) [v13, I 1] fun v17 =>
 (N0 [v17]))))))
 (Q [I 0]))))))))))
def S_ref19_down (ρ : Fns) (v0 v1 v2 v3 v4 v5 v6 v7 v8 v9 v10 v11 v12 v13 v14 v15 : PV) (Q : List PV → Prop) : Prop :=
 (SUB 3 (fun R =>
 ((    (OP (.repl 16 [(.int .i64 0), (.int .i64 0)]) [v0] fun v16 =>
 ((     (OP (.repl 200 [(.bool false), (.bool false), (.int .i64 0), (.int .i64 0), (.int .i64 0), (.int .i64 0), (.int .i64 0), (.int .i64 0), .nil, .nil, (.int .i64 0), (.int .i64 0), (.int .i64 0), .nil, .nil, .nil]) [v1] fun v17 =>
 (OP (.repl 24 [(.int .i64 0), (.int .i64 0), (.int .i64 0)]) [v0] fun v18 =>
 (R [v18, v17, v16])))) ∧
 (     (OP (.repl 24 [(.int .i64 0), (.int .i64 0), (.int .i64 0)]) [v0] fun v17 =>
 (OP (.repl 200 [(.bool false), (.bool false), (.int .i64 0), (.int .i64 0), (.int .i64 0), (.int .i64 0), (.int .i64 0), (.int .i64 0), .nil, .nil, (.int .i64 0), (.int .i64 0), (.int .i64 0), .nil, .nil, .nil]) [v1] fun v18 =>
 (R [v17, v18, v16]))))))) ∧
 (    ((     (OP (.repl 200 [(.bool false), (.bool false), (.int .i64 0), (.int .i64 0), (.int .i64 0), (.int .i64 0), (.int .i64 0), (.int .i64 0), .nil, .nil, (.int .i64 0), (.int .i64 0), (.int .i64 0), .nil, .nil, .nil]) [v1] fun v16 =>
 ((      (OP (.repl 16 [(.int .i64 0), (.int .i64 0)]) [v0] fun v17 =>
 (OP (.repl 24 [(.int .i64 0), (.int .i64 0), (.int .i64 0)]) [v0] fun v18 =>
 (R [v18, v16, v17])))) ∧
 (      (OP (.repl 24 [(.int .i64 0), (.int .i64 0), (.int .i64 0)]) [v0] fun v17 =>
 (OP (.repl 16 [(.int .i64 0), (.int .i64 0)]) [v0] fun v18 =>
 (R [v17, v16, v18]))))))) ∧
 (     (OP (.repl 24 [(.int .i64 0), (.int .i64 0), (.int .i64 0)]) [v0] fun v16 =>
 ((      (OP (.repl 16 [(.int .i64 0), (.int .i64 0)]) [v0] fun v17 =>
 (OP (.repl 200 [(.bool false), (.bool false), (.int .i64 0), (.int .i64 0), (.int .i64 0), (.int .i64 0), (.int .i64 0), (.int .i64 0), .nil, .nil, (.int .i64 0), (.int .i64 0), (.int .i64 0), .nil, .nil, .nil]) [v1] fun v18 =>
 (R [v16, v18, v17])))) ∧
 (      (OP (.repl 200 [(.bool false), (.bool false), (.int .i64 0), (.int .i64 0), (.int .i64 0), (.int .i64 0), (.int .i64 0), (.int .i64 0), .nil, .nil, (.int .i64 0), (.int .i64 0), (.int .i64 0), .nil, .nil, .nil]) [v1] fun v17 =>
 (OP (.repl 16 [(.int .i64 0), (.int .i64 0)]) [v0] fun v18 =>
 (R [v16, v17, v18]))))))))))) fun v16 v17 v18 =>
 (LOOP 2 [I 0, v17] fun N0 v19 v20 =>
 (OP (.bin .lss) [v19, v1] fun v21 =>
 (ITE v21
 (OP (.idx 16) [v10, v19] fun v22 =>
 (OP (.idx 16) [v20, v19] fun v23 =>
 (OP (.set 2) [v20, v23, v10.cellAt v22 2] fun v24 =>
 (OP (.bin .add) [v19, I 1] fun v25 =>
 (N0 [v25, v24])))))
 (Q [bb false, v8, v18, v20, .list [], I 0, I 0, v16, .list []])))))
def S_ref19_World (ρ : Fns) (v0 v1 v2 v3 v4 v5 v6 v7 v8 : PV) (Q : List PV → Prop) : Prop :=
 (SUB 1 (fun R =>
 (OP .len [v7] fun v9 =>
 (OP (.bin .neq) [v9, v0] fun v10 =>
 (ITE v10
 (R [bb true])
 (CALL ρ 38 [v8] 1 fun v11 =>
 (OP (.bin .neq) [v11, I 0] fun v12 =>
 (R [v12]))))))) fun v9 =>
 (ITE v9
 (Q [bb false])
 (LOOP 1 [I 0] fun N0 v10 =>
 (OP (.bin .lss) [v10, v0] fun v11 =>
 (ITE v11
 (OP (.idx 9) [v7, v10] fun v12 =>
 (CALL ρ 39 [v0, v1, v2, v3, v4, v5, v6, v10, v7.cellAt v12 0, v7.cellAt v12 1, v7.cellAt v12 2, v7.cellAt v12 3, v7.cellAt v12 4, v7.cellAt v12 5, v7.cellAt v12 6, v7.cellAt v12 7, v7.cellAt v12 8] 1 fun v13 =>
 (OP (.un .not) [v13] fun v14 =>
 (ITE v14
 (Q [bb false])
 (OP (.un .not) [v7.cellAt v12 0] fun v15 =>
 (ITE v15
 (CALL ρ 40 [v0, v1, v2, v3, v4, v5, v6, v7.cellAt v12 0, v7.cellAt v12 1, v7.cellAt v12 2, v7.cellAt v12 3, v7.cellAt v12 4, v7.cellAt v12 5, v7.cellAt v12 6, v7.cellAt v12 7, v7.cellAt v12 8] 9 fun v16 v17 v18 v19 v20 v21 v22 v23 v24 =>
 (CALL ρ 36 [v7.cellAt v12 0, v7.cellAt v12 1, v7.cellAt v12 2, v7.cellAt v12 3, v7.cellAt v12 4, v7.cellAt v12 5, v7.cellAt v12 6, v7.cellAt v12 7, v7.cellAt v12 8, v16, v17, v18, v19, v20, v21, v22, v23, v24] 1 fun v25 =>
 (OP (.un .not) [v25] fun v26 =>
 (ITE v26
 (Q [bb false])
 (OP (.bin .add) [v10, I 1] fun v27 =>
 (N0 [v27]))))))
 (OP (.bin .add) [v10, I 1] fun v16 =>
 (N0 [v16]))))))))
 (Q [bb true]))))))
def S_world_blank (ρ : Fns) (v0 v1 v2 v3 v4 v5 v6 v7 v8 : PV) (Q : List PV → Prop) : Prop :=
 (SUB 3 (fun R =>
 ((    (OP (.repl 16 [(.int .i64 0), (.int .i64 0)]) [v0] fun v9 =>
 ((     (OP (.repl 200 [(.bool false), (.bool false), (.int .i64 0), (.int .i64 0), (.int .i64 0), (.int .i64 0), (.int .i64 0), (.int .i64 0), .nil, .nil, (.int .i64 0), (.int .i64 0), (.int .i64 0), .nil, .nil, .nil]) [v1] fun v10 =>
 (OP (.repl 24 [(.int .i64 0), (.int .i64 0), (.int .i64 0)]) [v0] fun v11 =>
 (R [v11, v10, v9])))) ∧
 (     ((      (OP (.repl 24 [(.int .i64 0), (.int .i64 0), (.int .i64 0)]) [v0] fun v10 =>
 (OP (.repl 200 [(.bool false), (.bool false), (.int .i64 0), (.int .i64 0), (.int .i64 0), (.int .i64 0), (.int .i64 0), (.int .i64 0), .nil, .nil, (.int .i64 0), (.int .i64 0), (.int .i64 0), .nil, .nil, .nil]) [v1] fun v11 =>
 (R [v10, v11, v9])))) ∧
 (      ((       (OP (.repl 200 [(.bool false), (.bool false), (.int .i64 0), (.int .i64 0), (.int .i64 0), (.int .i64 0), (.int .i64 0), (.int .i64 0), .nil, .nil, (.int .i64 0), (.int .i64 0), (.int .i64 0), .nil, .nil, .nil]) [v1] fun v10 =>
 (OP (.repl 24 [(.int .i64 0), (.int .i64 0), (.int .i64 0)]) [v0] fun v11 =>
 (R [v11, v10, v9])))) ∧
 (       (OP (.repl 24 [(.int .i64 0), (.int .i64 0), (.int .i64 0)]) [v0] fun v10 =>
 (OP (.repl 200 [(.bool false), (.bool false), (.int .i64 0), (.int .i64 0), (.int .i64 0), (.int .i64 0), (.int .i64 0), (.int .i64 0), .nil, .nil, (.int .i64 0), (.int .i64 0), (.int .i64 0), .nil, .nil, .nil]) [v1] fun v11 =>
 (R [v10, v11, v9]))))))))))) ∧
 (    ((     (OP (.repl 200 [(.bool false), (.bool false), (.int .i64 0), (.int .i64 0), (.int .i64 0), (.int .i64 0), (.int .i64 0), (.int .i64 0), .nil, .nil, (.int .i64 0), (.int .i64 0), (.int .i64 0), .nil, .nil, .nil]) [v1] fun v9 =>
 ((      (OP (.repl 16 [(.int .i64 0), (.int .i64 0)]) [v0] fun v10 =>
 (OP (.repl 24 [(.int .i64 0), (.int .i64 0), (.int .i64 0)]) [v0] fun v11 =>
 (R [v11, v9, v10])))) ∧
 (      ((       (OP (.repl 24 [(.int .i64 0), (.int .i64 0), (.int .i64 0)]) [v0] fun v10 =>
 (OP (.repl 16 [(.int .i64 0), (.int .i64 0)]) [v0] fun v11 =>
 (R [v10, v9, v11])))) ∧
 (       ((        (OP (.repl 16 [(.int .i64 0), (.int .i64 0)]) [v0] fun v10 =>
 (OP (.repl 24 [(.int .i64 0), (.int .i64 0), (.int .i64 0)]) [v0] fun v11 =>
 (R [v11, v9, v10])))) ∧
 (        (OP (.repl 24 [(.int .i64 0), (.int .i64 0), (.int .i64 0)]) [v0] fun v10 =>
 (OP (.repl 16 [(.int .i64 0), (.int .i64 0)]) [v0] fun v11 =>
 (R [v10, v9, v11]))))))))))) ∧
 (     ((      (OP (.repl 24 [(.int .i64 0), (.int .i64 0), (.int .i64 0)]) [v0] fun v9 =>
 ((       (OP (.repl 16 [(.int .i64 0), (.int .i64 0)]) [v0] fun v10 =>
 (OP (.repl 200 [(.bool false), (.bool false), (.int .i64 0), (.int .i64 0), (.int .i64 0), (.int .i64 0), (.int .i64 0), (.int .i64 0), .nil, .nil, (.int .i64 0), (.int .i64 0), (.int .i64 0), .nil, .nil, .nil]) [v1] fun v11 =>
 (R [v9, v11, v10])))) ∧
 (       ((        (OP (.repl 200 [(.bool false), (.bool false), (.int .i64 0), (.int .i64 0), (.int .i64 0), (.int .i64 0), (.int .i64 0), (.int .i64 0), .nil, .nil, (.int .i64 0), (.int .i64 0), (.int .i64 0), .nil, .nil, .nil]) [v1] fun v10 =>
 (OP (.repl 16 [(.int .i64 0), (.int .i64 0)]) [v0] fun v11 =>
 (R [v9, v10, v11])))) ∧
 (        ((         (OP (.repl 16 [(.int .i64 0), (.int .i64 0)]) [v0] fun v10 =>
 (OP (.repl 200 [(.bool false), (.bool false), (.int .i64 0), (.int .i64 0), (.int .i64 0), (.int .i64 0), (.int .i64 0), (.int .i64 0), .nil, .nil, (.int .i64 0), (.int .i64 0), (.int .i64 0), .nil, .nil, .nil]) [v1] fun v11 =>
 (R [v9, v11, v10])))) ∧
 (         (OP (.repl 200 [(.bool false), (.bool false), (.int .i64 0), (.int .i64 0), (.int .i64 0), (.int .i64 0), (.int .i64 0), (.int .i64 0), .nil, .nil, (.int .i64 0), (.int .i64 0), (.int .i64 0), .nil, .nil, .nil]) [v1] fun v10 =>
 (OP (.repl 16 [(.int .i64 0), (.int .i64 0)]) [v0] fun v11 =>
 (R [v9, v10, v11]))))))))))) ∧
 (      ((       (OP (.repl 16 [(.int .i64 0), (.int .i64 0)]) [v0] fun v9 =>
 ((        (OP (.repl 200 [(.bool false), (.bool false), (.int .i64 0), (.int .i64 0), (.int .i64 0), (.int .i64 0), (.int .i64 0), (.int .i64 0), .nil, .nil, (.int .i64 0), (.int .i64 0), (.int .i64 0), .nil, .nil, .nil]) [v1] fun v10 =>
 (OP (.repl 24 [(.int .i64 0), (.int .i64 0), (.int .i64 0)]) [v0] fun v11 =>
 (R [v11, v10, v9])))) ∧
 (        (OP (.repl 24 [(.int .i64 0), (.int .i64 0), (.int .i64 0)]) [v0] fun v10 =>
 (OP (.repl 200 [(.bool false), (.bool false), (.int .i64 0), (.int .i64 0), (.int .i64 0), (.int .i64 0), (.int .i64 0), (.int .i64 0), .nil, .nil, (.int .i64 0), (.int .i64 0), (.int .i64 0), .nil, .nil, .nil]) [v1] fun v11 =>
 (R [v10, v11, v9]))))))) ∧
 (       ((        (OP (.repl 200 [(.bool false), (.bool false), (.int .i64 0), (.int .i64 0), (.int .i64 0), (.int .i64 0), (.int .i64 0), (.int .i64 0), .nil, .nil, (.int .i64 0), (.int .i64 0), (.int .i64 0), .nil, .nil, .nil]) [v1] fun v9 =>
 ((         (OP (.repl 16 [(.int .i64 0), (.int .i64 0)]) [v0] fun v10 =>
 (OP (.repl 24 [(.int .i64 0), (.int .i64 0), (.int .i64 0)]) [v0] fun v11 =>
 (R [v11, v9, v10])))) ∧
 (         (OP (.repl 24 [(.int .i64 0), (.int .i64 0), (.int .i64 0)]) [v0] fun v10 =>
 (OP (.repl 16 [(.int .i64 0), (.int .i64 0)]) [v0] fun v11 =>
 (R [v10, v9, v11]))))))) ∧
 (        (OP (.repl 24 [(.int .i64 0), (.int .i64 0), (.int .i64 0)]) [v0] fun v9 =>
 ((         (OP (.repl 16 [(.int .i64 0), (.int .i64 0)]) [v0] fun v10 =>
 (OP (.repl 200 [(.bool false), (.bool false), (.int .i64 0), (.int .i64 0), (.int .i64 0), (.int .i64 0), (.int .i64 0), (.int .i64 0), .nil, .nil, (.int .i64 0), (.int .i64 0), (.int .i64 0), .nil, .nil, .nil]) [v1] fun v11 =>
 (R [v9, v11, v10])))) ∧
 (         (OP (.repl 200 [(.bool false), (.bool false), (.int .i64 0), (.int .i64 0), (.int .i64 0), (.int .i64 0), (.int .i64 0), (.int .i64 0), .nil, .nil, (.int .i64 0), (.int .i64 0), (.int .i64 0), .nil, .nil, .nil]) [v1] fun v10 =>
 (OP (.repl 16 [(.int .i64 0), (.int .i64 0)]) [v0] fun v11 =>
 (R [v9, v10, v11]))))))))))))))))) fun v9 v10 v11 =>
 (OP .len [v8] fun v12 =>
 (LOOP 2 [I 0, v10] fun N0 v13 v14 =>
 (OP (.bin .lss) [v13, v12] fun v15 =>
 (ITE v15
 (OP (.idx 16) [v8, v13] fun v16 =>
 (OP (.idx 16) [v14, v13] fun v17 =>
 (OP (.set 2) [v14, v17, v8.cellAt v16 2] fun v18 =>
 (OP (.bin .add) [v13, I 1] fun v19 =>
 (N0 [v19, v18])))))
 (Q [bb false, v7, v11, v14, .list [], I 0, I 0, v9, .list []]))))))
def S_world_up (ρ : Fns) (v0 v1 v2 v3 v4 v5 v6 v7 v8 : PV) (Q : List PV → Prop) : Prop :=
 (Q [bb true, v1, v2, v3, v4, v5, v6, v7, v8])
def S_world_New (ρ : Fns) (v0 v1 v2 v3 v4 v5 v6 : PV) (Q : List PV → Prop) : Prop :=
 (CALL ρ 49 [v0, v1, v2, v3, v4, v5, v6] 1 fun v7 =>
 (OP (.bin .neq) [v7, I 0] fun v8 =>
 (ITE v8
 (Q [.list [], .list [], v7])
 (LOOP 2 [I 0, .list []] fun N0 v9 v10 =>
 (OP (.bin .lss) [v9, v0] fun v11 =>
 (ITE v11
 (CALL ρ 68 [v0, v1, v2, v3, v4, v5, v6, I 1, L (α := Topic) []] 9 fun v12 v13 v14 v15 v16 v17 v18 v19 v20 =>
 (CALL ρ 67 [v12, v13, v14, v15, v16, v17, v18, v19, v20] 9 fun v21 v22 v23 v24 v25 v26 v27 v28 v29 =>
 (OP (.rows 9) [v21, v22, v23, v24, v25, v26, v27, v28, v29] fun v30 =>
 (OP (.app 9 152) [v10, v30] fun v31 =>
 (OP (.bin .add) [v9, I 1] fun v32 =>
 (N0 [v32, v31]))))))
 (Q [v10, .list [], I 0])))))))
def S_check_asked (ρ : Fns) (v0 v1 v2 v3 v4 v5 v6 v7 v8 v9 : PV) (Q : List PV → Prop) : Prop :=
 (CALL ρ 26 [v0, v1, v2, v3, v4, v5, v6, v7, v8] 1 fun v10 =>
 (OP (.bin .eql) [v10, I 0] fun v11 =>
 (ITE v11
 (OP (.bin .lss) [v9, I 0] fun v12 =>
 (ITE v12
 (Q [I 1])
 (OP (.bin .geq) [v9, v1] fun v13 =>
 (ITE v13
 (Q [I 1])
 (Q [v10])))))
 (Q [v10]))))
def S_check_Parents (ρ : Fns) (v0 v1 v2 v3 v4 v5 v6 v7 v8 v9 : PV) (Q : List PV → Prop) : Prop :=
 (CALL ρ 24 [v0, v1, v2, v3, v4, v5, v6, v7, v8, v9] 1 fun v10 =>
 (OP (.bin .neq) [v10, I 0] fun v11 =>
 (ITE v11
 (Q [.list [], v10])
 (OP .len [v7] fun v12 =>
 (LOOP 2 [I 0, .list []] fun N0 v13 v14 =>
 (OP (.bin .lss) [v13, v12] fun v15 =>
 (ITE v15
 (OP (.idx 9) [v7, v13] fun v16 =>
 (OP (.idx 16) [v7.cellAt v16 3, v9] fun v17 =>
 (OP (.rows 1) [(v7.cellAt v16 3).cellAt v17 4] fun v18 =>
 (OP (.app 1 8) [v14, v18] fun v19 =>
 (OP (.bin .add) [v13, I 1] fun v20 =>
 (N0 [v20, v19]))))))
 (Q [v14, I 0]))))))))
def S_check_Roots (ρ : Fns) (v0 v1 v2 v3 v4 v5 v6 v7 v8 v9 : PV) (Q : List PV → Prop) : Prop :=
 (CALL ρ 24 [v0, v1, v2, v3, v4, v5, v6, v7, v8, v9] 1 fun v10 =>
 (OP (.bin .neq) [v10, I 0] fun v11 =>
 (ITE v11
 (Q [.list [], v10])
 (OP .len [v7] fun v12 =>
 (LOOP 2 [I 0, .list []] fun N0 v13 v14 =>
 (OP (.bin .lss) [v13, v12] fun v15 =>
 (ITE v15
 (OP (.idx 9) [v7, v13] fun v16 =>
 (ITE (v7.cellAt v16 0)
 (OP (.idx 16) [v7.cellAt v16 3, v9] fun v17 =>
 (OP (.bin .neq) [(v7.cellAt v16 3).cellAt v17 3, I 0] fun v18 =>
 (ITE v18
 (OP (.rows 1) [v13] fun v19 =>
 (OP (.app 1 8) [v14, v19] fun v20 =>
 (OP (.bin .add) [v13, I 1] fun v21 =>
 (N0 [v21, v20]))))
 (OP (.bin .add) [v13, I 1] fun v19 =>
 (N0 [v19, v14])))))
 (OP (.bin .add) [v13, I 1] fun v17 =>
 (N0 [v17, v14]))))
 (Q [v14, I 0]))))))))
def S_check_whole (ρ : Fns) (v0 v1 v2 : PV) (Q : List PV → Prop) : Prop :=
 (OP .len [v0] fun v3 =>
 (LOOP 2 [I 0, .list []] fun N0 v4 v5 =>
 (OP (.bin .lss) [v4, v3] fun v6 =>
 (ITE v6
 (OP (.idx 9) [v0, v4] fun v7 =>
 (OP (.idx 16) [v0.cellAt v7 3, v2] fun v8 =>
 (OP (.rows 1) [(v0.cellAt v7 3).cellAt v8 8] fun v9 =>
 (OP (.app 1 24) [v5, v9] fun v10 =>
 (OP (.bin .add) [v4, I 1] fun v11 =>
 (N0 [v11, v10]))))))
 (CALL ρ 48 [v2, v5] 1 fun v7 =>
 (Q [v7]))))))
def S_check_Whole (ρ : Fns) (v0 v1 v2 v3 v4 v5 v6 v7 v8 v9 : PV) (Q : List PV → Prop) : Prop :=
 (CALL ρ 24 [v0, v1, v2, v3, v4, v5, v6, v7, v8, v9] 1 fun v10 =>
 (OP (.bin .neq) [v10, I 0] fun v11 =>
 (ITE v11
 (Q [bb false, v10])
 (CALL ρ 25 [v7, v8, v9] 1 fun v12 =>
 (Q [v12, I 0])))))
def S_check_last (ρ : Fns) (v0 v1 v2 v3 v4 v5 : PV) (Q : List PV → Prop) : Prop :=
 (OP (.bin .eql) [v0, I 1] fun v6 =>
 (ITE v6
 (Q [v2, bb true])
 (OP (.bin .eql) [v0, I 2] fun v7 =>
 (ITE v7
 (Q [v3, bb true])
 (Q [I 0, bb false])))))
def S_check_Rises (ρ : Fns) (v0 : PV) (Q : List PV → Prop) : Prop :=
 (OP .len [v0] fun v1 =>
 (LOOP 1 [I 0] fun N0 v2 =>
 (OP (.bin .lss) [v2, v1] fun v3 =>
 (ITE v3
 (OP (.idx 6) [v0, v2] fun v4 =>
 (CALL ρ 34 [v0.cellAt v4 0, v0.cellAt v4 1, v0.cellAt v4 2, v0.cellAt v4 3, v0.cellAt v4 4, v0.cellAt v4 5] 2 fun v5 v6 =>
 (OP (.un .not) [v6] fun v7 =>
 (ITE v7
 (Q [bb false])
 (OP (.bin .eql) [v2, I 0] fun v8 =>
 (ITE v8
 (OP (.bin .add) [v2, I 1] fun v9 =>
 (N0 [v9]))
 (OP (.bin .sub) [v2, I 1] fun v9 =>
 (OP (.idx 6) [v0, v9] fun v10 =>
 (CALL ρ 34 [v0.cellAt v10 0, v0.cellAt v10 1, v0.cellAt v10 2, v0.cellAt v10 3, v0.cellAt v10 4, v0.cellAt v10 5] 2 fun v11 v12 =>
 (SUB 1 (fun R =>
 (OP (.bin .sub) [v0.cellAt v4 2, I 1] fun v13 =>
 (OP (.bin .eql) [v13, v11] fun v14 =>
 (ITE v14
 (OP (.bin .gtr) [v0.cellAt v4 2, v11] fun v15 =>
 (R [v15]))
 (R [bb false]))))) fun v13 =>
 (OP (.bin .sub) [v2, I 1] fun v14 =>
 (OP (.idx 6) [v0, v14] fun v15 =>
 (OP (.bin .lss) [v0.cellAt v4 1, v0.cellAt v15 1] fun v16 =>
 (ITE v16
 (Q [bb false])
 (OP (.bin .sub) [v2, I 1] fun v17 =>
 (OP (.idx 6) [v0, v17] fun v18 =>
 (OP (.bin .eql) [v0.cellAt v4 1, v0.cellAt v18 1] fun v19 =>
 (ITE v19
 (OP (.un .not) [v13] fun v20 =>
 (ITE v20
 (Q [bb false])
 (OP (.bin .add) [v2, I 1] fun v21 =>
 (N0 [v21]))))
 (OP (.bin .add) [v2, I 1] fun v20 =>
 (N0 [v20]))))))))))))))))))))
 (Q [bb true])))))
def S_check_deep (ρ : Fns) (v0 v1 v2 v3 v4 v5 v6 v7 v8 v9 v10 v11 v12 v13 v14 v15 : PV) (Q : List PV → Prop) : Prop :=
 (OP .len [v10] fun v16 =>
 (LOOP 1 [I 0] fun N0 v17 =>
 (OP (.bin .lss) [v17, v16] fun v18 =>
 (ITE v18
 (OP (.idx 16) [v10, v17] fun v19 =>
 (OP .len [v10.cellAt v19 8] fun v20 =>
 (OP (.bin .gtr) [v20, v3] fun v21 =>
 (ITE v21
 (OP (.bin .geq) [v17, I 0] fun v22 =>
 (Q [v22]))
 (OP (.bin .add) [v17, I 1] fun v22 =>
 (N0 [v22]))))))
 (OP (.bin .geq) [I (-1), I 0] fun v19 =>
 (Q [v19]))))))
def S_check_full (ρ : Fns) (v0 v1 v2 v3 v4 v5 v6 v7 v8 v9 v10 v11 v12 v13 v14 v15 v16 v17 v18 v19 v20 v21 v22 : PV) (Q : List PV → Prop) : Prop :=
 (OP .len [v16] fun v23 =>
 (OP (.bin .gtr) [v23, v2] fun v24 =>
 (ITE v24
 (Q [bb true])
 (OP .len [v20] fun v25 =>
 (OP (.bin .gtr) [v25, v4] fun v26 =>
 (ITE v26
 (Q [bb true])
 (OP .len [v21] fun v27 =>
 (OP (.bin .gtr) [v27, v5] fun v28 =>
 (ITE v28
 (Q [bb true])
 (OP .len [v22] fun v29 =>
 (OP (.bin .gtr) [v29, v6] fun v30 =>
 (Q [v30]))))))))))))
def S_slices_Contains_int_int (ρ : Fns) (v0 v1 : PV) (Q : List PV → Prop) : Prop :=
 (OP .len [v0] fun v2 =>
 (LOOP 1 [I 0] fun N0 v3 =>
 (OP (.bin .lss) [v3, v2] fun v4 =>
 (ITE v4
 (OP (.idx 1) [v0, v3] fun v5 =>
 (OP (.bin .eql) [v1, v0.cellAt v5 0] fun v6 =>
 (ITE v6
 (OP (.bin .geq) [v3, I 0] fun v7 =>
 (Q [v7]))
 (OP (.bin .add) [v3, I 1] fun v7 =>
 (N0 [v7])))))
 (OP (.bin .geq) [I (-1), I 0] fun v5 =>
 (Q [v5]))))))
def S_check_rooted (ρ : Fns) (v0 v1 v2 : PV) (Q : List PV → Prop) : Prop :=
 (OP .len [v0] fun v3 =>
 (LOOP 2 [I 0, .list []] fun N0 v4 v5 =>
 (OP (.bin .lss) [v4, v3] fun v6 =>
 (ITE v6
 (OP (.idx 9) [v0, v4] fun v7 =>
 (OP (.idx 16) [v0.cellAt v7 3, v2] fun v8 =>
 (SUB 1 (fun R =>
 (OP (.un .not) [v0.cellAt v7 0] fun v9 =>
 (ITE v9
 (R [bb true])
 (OP (.bin .eql) [(v0.cellAt v7 3).cellAt v8 3, I 0] fun v10 =>
 (R [v10]))))) fun v9 =>
 (ITE v9
 (OP (.bin .add) [v4, I 1] fun v10 =>
 (N0 [v10, v5]))
 (CALL ρ 55 [(v0.cellAt v7 3).cellAt v8 3] 2 fun v10 v11 =>
 (OP (.bin .neq) [v11, I 0] fun v12 =>
 (ITE v12
 (Q [bb false])
 (OP (.bin .neq) [v10, v4] fun v13 =>
 (ITE v13
 (Q [bb false])
 (CALL ρ 56 [v5, (v0.cellAt v7 3).cellAt v8 3] 1 fun v14 =>
 (ITE v14
 (Q [bb false])
 (OP (.rows 1) [(v0.cellAt v7 3).cellAt v8 3] fun v15 =>
 (OP (.app 1 8) [v5, v15] fun v16 =>
 (OP (.bin .add) [v4, I 1] fun v17 =>
 (N0 [v17, v16])))))))))))))))
 (Q [bb true])))))
def S_check_Holds (ρ : Fns) (v0 v1 v2 v3 v4 v5 v6 v7 v8 : PV) (Q : List PV → Prop) : Prop :=
 (CALL ρ 26 [v0, v1, v2, v3, v4, v5, v6, v7, v8] 1 fun v9 =>
 (OP (.bin .neq) [v9, I 0] fun v10 =>
 (ITE v10
 (Q [v9])
 (SUB 5 (fun R =>
 ((     (OP .len [v7] fun v11 =>
 (LOOP 1 [I 0] fun N0 v12 =>
 (OP (.bin .lss) [v12, v11] fun v13 =>
 (ITE v13
 (OP (.idx 9) [v7, v12] fun v14 =>
 (CALL ρ 29 [v0, v1, v2, v3, v4, v5, v6, v7.cellAt v14 0, v7.cellAt v14 1, v7.cellAt v14 2, v7.cellAt v14 3, v7.cellAt v14 4, v7.cellAt v14 5, v7.cellAt v14 6, v7.cellAt v14 7, v7.cellAt v14 8] 1 fun v15 =>
 (ITE v15
 (OP (.bin .geq) [v12, I 0] fun v16 =>
 (OP .len [v8] fun v17 =>
 (OP (.bin .gtr) [v17, I 300] fun v18 =>
 (R [v16, v17, v18, v16, v18]))))
 (OP (.bin .add) [v12, I 1] fun v16 =>
 (N0 [v16])))))
 (OP (.bin .geq) [I (-1), I 0] fun v14 =>
 (OP .len [v8] fun v15 =>
 (OP (.bin .gtr) [v15, I 300] fun v16 =>
 (R [v14, v15, v16, v14, v16]))))))))) ∧
 (     (OP .len [v8] fun v11 =>
 (OP (.bin .gtr) [v11, I 300] fun v12 =>
 (OP .len [v7] fun v13 =>
 (LOOP 1 [I 0] fun N0 v14 =>
 (OP (.bin .lss) [v14, v13] fun v15 =>
 (ITE v15
 (OP (.idx 9) [v7, v14] fun v16 =>
 (CALL ρ 29 [v0, v1, v2, v3, v4, v5, v6, v7.cellAt v16 0, v7.cellAt v16 1, v7.cellAt v16 2, v7.cellAt v16 3, v7.cellAt v16 4, v7.cellAt v16 5, v7.cellAt v16 6, v7.cellAt v16 7, v7.cellAt v16 8] 1 fun v17 =>
 (ITE v17
 (OP (.bin .geq) [v14, I 0] fun v18 =>
 (R [v18, v11, v12, v18, v12]))
 (OP (.bin .add) [v14, I 1] fun v18 =>
 (N0 [v18])))))
 (OP (.bin .geq) [I (-1), I 0] fun v16 =>
 (R [v16, v11, v12, v16, v12]))))))))))) fun v11 v12 v13 v14 v15 =>
 (LOOP 3 [v14, bb false, I 0] fun N0 v16 v17 v18 =>
 (OP (.bin .lss) [v18, v1] fun v19 =>
 (ITE v19
 (ITE v16
 (ITE v17
 (OP (.bin .add) [v18, I 1] fun v20 =>
 (N0 [bb true, bb true, v20]))
 (CALL ρ 30 [v7, v8, v18] 1 fun v20 =>
 (OP (.un .not) [v20] fun v21 =>
 (OP (.bin .add) [v18, I 1] fun v22 =>
 (N0 [bb true, v21, v22])))))
 (CALL ρ 25 [v7, v8, v18] 1 fun v20 =>
 (OP (.un .not) [v20] fun v21 =>
 (ITE v17
 (OP (.bin .add) [v18, I 1] fun v22 =>
 (N0 [v21, bb true, v22]))
 (CALL ρ 30 [v7, v8, v18] 1 fun v22 =>
 (OP (.un .not) [v22] fun v23 =>
 (OP (.bin .add) [v18, I 1] fun v24 =>
 (N0 [v21, v23, v24]))))))))
 (OP .len [v7] fun v20 =>
 (LOOP 2 [v15, I 0] fun N1 v21 v22 =>
 (OP (.bin .lss) [v22, v20] fun v23 =>
 (ITE v23
 (OP (.idx 9) [v7, v22] fun v24 =>
 (ITE v21
 (OP (.bin .add) [v22, I 1] fun v25 =>
 (N1 [bb true, v25]))
 (OP .len [v7.cellAt v24 3] fun v25 =>
 (LOOP 1 [I 0] fun N2 v26 =>
 (OP (.bin .lss) [v26, v25] fun v27 =>
 (ITE v27
 (OP (.idx 16) [v7.cellAt v24 3, v26] fun v28 =>
 (CALL ρ 33 [v0, v1, v2, v3, v4, v5, v6, (v7.cellAt v24 3).cellAt v28 0, (v7.cellAt v24 3).cellAt v28 1, (v7.cellAt v24 3).cellAt v28 2, (v7.cellAt v24 3).cellAt v28 3, (v7.cellAt v24 3).cellAt v28 4, (v7.cellAt v24 3).cellAt v28 5, (v7.cellAt v24 3).cellAt v28 6, (v7.cellAt v24 3).cellAt v28 7, (v7.cellAt v24 3).cellAt v28 8, (v7.cellAt v24 3).cellAt v28 9, (v7.cellAt v24 3).cellAt v28 10, (v7.cellAt v24 3).cellAt v28 11, (v7.cellAt v24 3).cellAt v28 12, (v7.cellAt v24 3).cellAt v28 13, (v7.cellAt v24 3).cellAt v28 14, (v7.cellAt v24 3).cellAt v28 15] 1 fun v29 =>
 (ITE v29
 (OP (.bin .geq) [v26, I 0] fun v30 =>
 (OP .sel [v21, bb true, v30] fun v31 =>
 (OP (.bin .add) [v22, I 1] fun v32 =>
 (N1 [v31, v32]))))
 (OP (.bin .add) [v26, I 1] fun v30 =>
 (N2 [v30])))))
 (OP (.bin .geq) [I (-1), I 0] fun v28 =>
 (OP .sel [v21, bb true, v28] fun v29 =>
 (OP (.bin .add) [v22, I 1] fun v30 =>
 (N1 [v29, v30]))))))))))
 (ITE v16
 (Q [I 12])
 (ITE v21
 (Q [I 6])
 (ITE v17
 (Q [I 8])
 (Q [I 0])))))))))))))))
def S_ref19_Holds (ρ : Fns) (v0 v1 v2 v3 v4 v5 v6 v7 v8 : PV) (Q : List PV → Prop) : Prop :=
 (LOOP 1 [I 0] fun N0 v9 =>
 (OP (.bin .lss) [v9, v1] fun v10 =>
 (ITE v10
 (LOOP 2 [I 0, .list []] fun N1 v11 v12 =>
 (OP (.bin .lss) [v11, v0] fun v13 =>
 (ITE v13
 (OP (.idx 9) [v7, v11] fun v14 =>
 (OP (.idx 16) [v7.cellAt v14 3, v9] fun v15 =>
 (OP (.rows 1) [(v7.cellAt v14 3).cellAt v15 8] fun v16 =>
 (OP (.app 1 24) [v12, v16] fun v17 =>
 (OP (.idx 9) [v7, v11] fun v18 =>
 (OP (.idx 16) [v7.cellAt v18 3, v9] fun v19 =>
 (OP .len [(v7.cellAt v18 3).cellAt v19 8] fun v20 =>
 (OP (.bin .gtr) [v20, v3] fun v21 =>
 (ITE v21
 (Q [I 12])
 (OP (.bin .add) [v11, I 1] fun v22 =>
 (N1 [v22, v17])))))))))))
 (CALL ρ 18 [v12] 1 fun v14 =>
 (OP (.un .not) [v14] fun v15 =>
 (ITE v15
 (Q [I 12])
 (OP (.bin .add) [v9, I 1] fun v16 =>
 (N0 [v16]))))))))
 (Q [I 0]))))
def S_law19_Full (ρ : Fns) (Q : List PV → Prop) : Prop :=
 (Q [I 8, I 4, I 2, I 8, I 8, I 8, I 16])
def S_law27_wakes (ρ : Fns) (Q : List PV → Prop) : Prop :=
 (CALL ρ 41 [] 7 fun v0 v1 v2 v3 v4 v5 v6 =>
 (CALL ρ 42 [v0, v1, v2, v3, v4, v5, v6] 3 fun v7 v8 v9 =>
 (CALL ρ 7 [v0, v1, v2, v3, v4, v5, v6, v7, v8, I 0] 2 fun v10 v11 =>
 (CALL ρ 8 [v0, v1, v2, v3, v4, v5, v6, v7, v8, I 0] 2 fun v12 v13 =>
 (CALL ρ 9 [v0, v1, v2, v3, v4, v5, v6, v7, v8, I 0] 2 fun v14 v15 =>
 (CALL ρ 9 [v0, v1, v2, v3, v4, v5, v6, v7, v8, I 4] 2 fun v16 v17 =>
 (OP (.bin .eql) [v9, I 0] fun v18 =>
 (ITE v18
 (OP (.bin .eql) [v11, I 0] fun v19 =>
 (ITE v19
 (OP .len [v10] fun v20 =>
 (OP (.bin .eql) [v20, I 8] fun v21 =>
 (ITE v21
 (OP (.bin .eql) [v13, I 0] fun v22 =>
 (ITE v22
 (OP .len [v12] fun v23 =>
 (OP (.bin .eql) [v23, I 0] fun v24 =>
 (ITE v24
 (ITE v14
 (OP (.bin .eql) [v15, I 0] fun v25 =>
 (ITE v25
 (OP (.bin .eql) [v17, I 1] fun v26 =>
 (ITE v26
 (CALL ρ 10 [v0, v1, v2, v3, v4, v5, v6, v7, v8] 1 fun v27 =>
 (OP (.bin .eql) [v27, I 0] fun v28 =>
 (ITE v28
 (CALL ρ 11 [L (α := Event) []] 1 fun v29 =>
 (ITE v29
 (OP (.rows 6) [I 0, I 0, I 0, I 0, I 0, I 0] fun v30 =>
 (CALL ρ 11 [v30] 1 fun v31 =>
 (OP (.un .not) [v31] fun v32 =>
 (Q [v32]))))
 (Q [bb false])))
 (Q [bb false]))))
 (Q [bb false])))
 (Q [bb false])))
 (Q [bb false]))
 (Q [bb false]))))
 (Q [bb false])))
 (Q [bb false]))))
 (Q [bb false])))
 (Q [bb false])))))))))
def S_law27_CheckExact (ρ : Fns) (v0 v1 v2 v3 v4 v5 v6 v7 v8 v9 v10 : PV) (Q : List PV → Prop) : Prop :=
 (SUB 1 (fun R =>
 (CALL ρ 5 [v7, v8] 1 fun v11 =>
 (ITE v11
 (R [bb true])
 (OP .len [v10] fun v12 =>
 (OP (.bin .gtr) [v12, I 50] fun v13 =>
 (R [v13])))))) fun v11 =>
 (ITE v11
 (Q [bb true])
 (CALL ρ 6 [v7, v8] 2 fun v12 v13 =>
 (CALL ρ 7 [v0, v1, v2, v3, v4, v5, v6, v12, v13, v9] 2 fun v14 v15 =>
 (CALL ρ 8 [v0, v1, v2, v3, v4, v5, v6, v12, v13, v9] 2 fun v16 v17 =>
 (CALL ρ 9 [v0, v1, v2, v3, v4, v5, v6, v12, v13, v9] 2 fun v18 v19 =>
 (CALL ρ 10 [v0, v1, v2, v3, v4, v5, v6, v12, v13] 1 fun v20 =>
 (LOOP 2 [bb true, I 0] fun N0 v21 v22 =>
 (OP .len [v10] fun v23 =>
 (OP (.bin .lss) [v22, v23] fun v24 =>
 (ITE v24
 (SUB 1 (fun R =>
 (OP (.idx 6) [v10, v22] fun v25 =>
 (OP (.bin .neq) [v10.cellAt v25 0, I 1] fun v26 =>
 (ITE v26
 (OP (.idx 6) [v10, v22] fun v27 =>
 (OP (.bin .neq) [v10.cellAt v27 0, I 2] fun v28 =>
 (R [v28])))
 (R [bb false]))))) fun v25 =>
 (SUB 1 (fun R =>
 (ITE v25
 (R [bb false])
 (R [v21]))) fun v26 =>
 (OP (.bin .gtr) [v22, I 0] fun v27 =>
 (ITE v27
 (OP (.bin .sub) [v22, I 1] fun v28 =>
 (OP (.idx 6) [v10, v28] fun v29 =>
 (OP (.bin .sub) [v22, I 1] fun v30 =>
 (OP (.idx 6) [v10, v30] fun v31 =>
 (OP (.bin .eql) [v10.cellAt v31 0, I 2] fun v32 =>
 (SUB 1 (fun R =>
 (ITE v32
 (OP (.bin .sub) [v22, I 1] fun v33 =>
 (OP (.idx 6) [v10, v33] fun v34 =>
 (R [v10.cellAt v34 3])))
 (R [v10.cellAt v29 2]))) fun v33 =>
 (OP (.idx 6) [v10, v22] fun v34 =>
 (OP (.bin .sub) [v22, I 1] fun v35 =>
 (OP (.idx 6) [v10, v35] fun v36 =>
 (OP (.bin .lss) [v10.cellAt v34 1, v10.cellAt v36 1] fun v37 =>
 (ITE v37
 (OP (.bin .add) [v22, I 1] fun v38 =>
 (N0 [bb false, v38]))
 (OP (.idx 6) [v10, v22] fun v38 =>
 (OP (.bin .sub) [v22, I 1] fun v39 =>
 (OP (.idx 6) [v10, v39] fun v40 =>
 (OP (.bin .eql) [v10.cellAt v38 1, v10.cellAt v40 1] fun v41 =>
 (ITE v41
 (OP (.idx 6) [v10, v22] fun v42 =>
 (OP (.bin .leq) [v10.cellAt v42 2, v33] fun v43 =>
 (ITE v43
 (OP (.bin .add) [v22, I 1] fun v44 =>
 (N0 [bb false, v44]))
 (OP (.idx 6) [v10, v22] fun v44 =>
 (OP (.bin .sub) [v10.cellAt v44 2, I 1] fun v45 =>
 (OP (.bin .neq) [v45, v33] fun v46 =>
 (ITE v46
 (OP (.bin .add) [v22, I 1] fun v47 =>
 (N0 [bb false, v47]))
 (OP (.bin .add) [v22, I 1] fun v47 =>
 (N0 [v26, v47])))))))))
 (OP (.bin .add) [v22, I 1] fun v42 =>
 (N0 [v26, v42]))))))))))))))))))
 (OP (.bin .add) [v22, I 1] fun v28 =>
 (N0 [v26, v28]))))))
 (SUB 1 (fun R =>
 (CALL ρ 11 [v10] 1 fun v25 =>
 (OP (.beq true) [v25, v21] fun v26 =>
 (ITE v26
 (R [bb true])
 (CALL ρ 12 [v12, v13, v7, v8] 1 fun v27 =>
 (OP (.un .not) [v27] fun v28 =>
 (R [v28]))))))) fun v25 =>
 (ITE v25
 (Q [bb false])
 (CALL ρ 13 [v0, v1, v2, v3, v4, v5, v6] 1 fun v26 =>
 (OP (.un .not) [v26] fun v27 =>
 (SUB 1 (fun R =>
 (ITE v27
 (R [I 13])
 (CALL ρ 14 [v0, v1, v2, v3, v4, v5, v6, v7, v8] 1 fun v28 =>
 (OP (.un .not) [v28] fun v29 =>
 (ITE v29
 (R [I 1])
 (R [I 0])))))) fun v28 =>
 (OP (.bin .neq) [v28, I 0] fun v29 =>
 (ITE v29
 (OP (.bin .eql) [v15, v28] fun v30 =>
 (ITE v30
 (OP (.bin .eql) [v17, v28] fun v31 =>
 (ITE v31
 (OP (.bin .eql) [v19, v28] fun v32 =>
 (ITE v32
 (OP (.bin .eql) [v20, v28] fun v33 =>
 (ITE v33
 (OP (.un .not) [v18] fun v34 =>
 (ITE v34
 (OP .len [v14] fun v35 =>
 (OP .len [v16] fun v36 =>
 (OP (.bin .add) [v35, v36] fun v37 =>
 (OP (.bin .eql) [v37, I 0] fun v38 =>
 (ITE v38
 (CALL ρ 15 [] 1 fun v39 =>
 (Q [v39]))
 (Q [bb false]))))))
 (Q [bb false])))
 (Q [bb false])))
 (Q [bb false])))
 (Q [bb false])))
 (Q [bb false])))
 (CALL ρ 16 [v0, v1, v2, v3, v4, v5, v6, v7, v8] 1 fun v30 =>
 (OP (.bin .neq) [v20, v30] fun v31 =>
 (ITE v31
 (Q [bb false])
 (SUB 1 (fun R =>
 (OP (.bin .lss) [v9, I 0] fun v32 =>
 (ITE v32
 (R [bb true])
 (OP (.bin .geq) [v9, v1] fun v33 =>
 (R [v33]))))) fun v32 =>
 (ITE v32
 (OP (.bin .eql) [v15, I 1] fun v33 =>
 (ITE v33
 (OP (.bin .eql) [v17, I 1] fun v34 =>
 (ITE v34
 (OP (.bin .eql) [v19, I 1] fun v35 =>
 (ITE v35
 (OP (.un .not) [v18] fun v36 =>
 (ITE v36
 (OP .len [v14] fun v37 =>
 (OP .len [v16] fun v38 =>
 (OP (.bin .add) [v37, v38] fun v39 =>
 (OP (.bin .eql) [v39, I 0] fun v40 =>
 (ITE v40
 (CALL ρ 15 [] 1 fun v41 =>
 (Q [v41]))
 (Q [bb false]))))))
 (Q [bb false])))
 (Q [bb false])))
 (Q [bb false])))
 (Q [bb false])))
 (LOOP 4 [I 0, .list [], .list [], .list []] fun N1 v33 v34 v35 v36 =>
 (OP (.bin .lss) [v33, v0] fun v37 =>
 (ITE v37
 (OP (.idx 9) [v7, v33] fun v38 =>
 (OP (.idx 16) [v7.cellAt v38 3, v9] fun v39 =>
 (SUB 4 (fun R =>
 ((             (OP (.rows 1) [(v7.cellAt v38 3).cellAt v39 4] fun v40 =>
 ((              (OP (.app 1 8) [v34, v40] fun v41 =>
 (OP (.rows 1) [(v7.cellAt v38 3).cellAt v39 8] fun v42 =>
 (OP (.app 1 24) [v36, v42] fun v43 =>
 (R [v43, v42, v41, v40]))))) ∧
 (              ((               (OP (.app 1 8) [v34, v40] fun v41 =>
 (OP (.rows 1) [(v7.cellAt v38 3).cellAt v39 8] fun v42 =>
 (OP (.app 1 24) [v36, v42] fun v43 =>
 (R [v43, v42, v41, v40]))))) ∧
 (               (OP (.rows 1) [(v7.cellAt v38 3).cellAt v39 8] fun v41 =>
 (OP (.app 1 8) [v34, v40] fun v42 =>
 (OP (.app 1 24) [v36, v41] fun v43 =>
 (R [v43, v41, v42, v40])))))))))) ∧
 (             ((              (OP (.rows 1) [(v7.cellAt v38 3).cellAt v39 4] fun v40 =>
 ((               (OP (.app 1 8) [v34, v40] fun v41 =>
 (OP (.rows 1) [(v7.cellAt v38 3).cellAt v39 8] fun v42 =>
 (OP (.app 1 24) [v36, v42] fun v43 =>
 (R [v43, v42, v41, v40]))))) ∧
 (               (OP (.rows 1) [(v7.cellAt v38 3).cellAt v39 8] fun v41 =>
 (OP (.app 1 8) [v34, v40] fun v42 =>
 (OP (.app 1 24) [v36, v41] fun v43 =>
 (R [v43, v41, v42, v40])))))))) ∧
 (              (OP (.rows 1) [(v7.cellAt v38 3).cellAt v39 8] fun v40 =>
 (OP (.rows 1) [(v7.cellAt v38 3).cellAt v39 4] fun v41 =>
 (OP (.app 1 8) [v34, v41] fun v42 =>
 (OP (.app 1 24) [v36, v40] fun v43 =>
 (R [v43, v40, v42, v41])))))))))) fun v40 v41 v42 v43 =>
 (OP (.idx 9) [v7, v33] fun v44 =>
 (ITE (v7.cellAt v44 0)
 (OP (.bin .neq) [(v7.cellAt v38 3).cellAt v39 3, I 0] fun v45 =>
 (ITE v45
 (OP (.rows 1) [v33] fun v46 =>
 (OP (.app 1 8) [v35, v46] fun v47 =>
 (OP (.bin .add) [v33, I 1] fun v48 =>
 (N1 [v48, v42, v47, v40]))))
 (OP (.bin .add) [v33, I 1] fun v46 =>
 (N1 [v46, v42, v35, v40]))))
 (OP (.bin .add) [v33, I 1] fun v45 =>
 (N1 [v45, v42, v35, v40])))))))
 (OP (.bin .eql) [v15, I 0] fun v38 =>
 (ITE v38
 (CALL ρ 17 [v14, v34] 1 fun v39 =>
 (ITE v39
 (OP (.bin .eql) [v17, I 0] fun v40 =>
 (ITE v40
 (CALL ρ 17 [v16, v35] 1 fun v41 =>
 (ITE v41
 (OP (.bin .eql) [v19, I 0] fun v42 =>
 (ITE v42
 (CALL ρ 18 [v36] 1 fun v43 =>
 (OP (.beq false) [v18, v43] fun v44 =>
 (ITE v44
 (CALL ρ 15 [] 1 fun v45 =>
 (Q [v45]))
 (Q [bb false]))))
 (Q [bb false])))
 (Q [bb false])))
 (Q [bb false])))
 (Q [bb false])))
 (Q [bb false])))))))))))))))))))))))))))))
end Go.Xt
