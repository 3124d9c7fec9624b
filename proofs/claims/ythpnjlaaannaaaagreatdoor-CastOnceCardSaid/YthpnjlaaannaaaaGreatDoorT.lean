/- Steps towards the statements of this seat; the conditions stand in each theorem. -/
import Derived.Test.YthpnjlaaannaaaaGreatDoorSpecs
/- The terms. -/
set_option maxRecDepth 100000
set_option linter.unusedVariables false
namespace Go.Xt
def S_ring_Is (ρ : Fns) (v0 : PV) (Q : List PV → Prop) : Prop :=
 (OP (.bin .geq) [v0, I 0] fun v1 =>
 (ITE v1
 (OP (.bin .lss) [v0, I 8] fun v2 =>
 (Q [v2]))
 (Q [bb false])))
def S_ring_Node (ρ : Fns) (v0 : PV) (Q : List PV → Prop) : Prop :=
 (CALL ρ 135 [v0] 1 fun v1 =>
 (OP (.un .not) [v1] fun v2 =>
 (ITE v2
 (Q [I 0, I 1])
 (OP .pickA [v0, I 2342812313538366385, I 1863050908023769503, I 81111313352671826, I 2434324899588211290, I 2454816673080883147, I 1342378062264523301, I 820659310660760249, I 2006264061484817761] fun v3 =>
 (Q [v3, I 0])))))
def S_ring_Topic (ρ : Fns) (v0 : PV) (Q : List PV → Prop) : Prop :=
 (OP (.bin .geq) [v0, I 0] fun v1 =>
 (ITE v1
 (OP (.bin .lss) [v0, I 4] fun v2 =>
 (OP (.un .not) [v2] fun v3 =>
 (ITE v3
 (Q [I 0, I 1])
 (OP .pickA [v0, I 1462484242049070477, I 1775212608919665246, I 3535639072113518480, I 3725500155902745375] fun v4 =>
 (Q [v4, I 0])))))
 (OP (.un .not) [bb false] fun v2 =>
 (ITE v2
 (Q [I 0, I 1])
 (OP .pickA [v0, I 1462484242049070477, I 1775212608919665246, I 3535639072113518480, I 3725500155902745375] fun v3 =>
 (Q [v3, I 0]))))))
def S_key_Far (ρ : Fns) (v0 v1 : PV) (Q : List PV → Prop) : Prop :=
 (OP (.bin .sub) [v1, v0] fun v2 =>
 (OP (.bin .lss) [v2, I 0] fun v3 =>
 (ITE v3
 (OP (.bin .add) [v2, I 4611686018427387904] fun v4 =>
 (Q [v4]))
 (Q [v2]))))
def S_ring_Gap (ρ : Fns) (v0 v1 : PV) (Q : List PV → Prop) : Prop :=
 (CALL ρ 103 [v0] 2 fun v2 v3 =>
 (OP (.bin .neq) [v3, I 0] fun v4 =>
 (ITE v4
 (Q [I 0, v3])
 (CALL ρ 174 [v1] 2 fun v5 v6 =>
 (OP (.bin .neq) [v6, I 0] fun v7 =>
 (ITE v7
 (Q [I 0, v6])
 (CALL ρ 175 [v2, v5] 1 fun v8 =>
 (Q [v8, I 0]))))))))
def S_ring_Nearer (ρ : Fns) (v0 v1 v2 : PV) (Q : List PV → Prop) : Prop :=
 (CALL ρ 145 [v0, v1] 2 fun v3 v4 =>
 (CALL ρ 145 [v0, v2] 2 fun v5 v6 =>
 (OP (.bin .eql) [v4, I 0] fun v7 =>
 (ITE v7
 (OP (.bin .eql) [v6, I 0] fun v8 =>
 (ITE v8
 (OP (.bin .lss) [v3, v5] fun v9 =>
 (Q [v9]))
 (Q [bb false])))
 (Q [bb false])))))
def S_ring_All (ρ : Fns) (v0 : PV) (Q : List PV → Prop) : Prop :=
 (OP .len [v0] fun v1 =>
 (LOOP 1 [I 0] fun N0 v2 =>
 (OP (.bin .lss) [v2, v1] fun v3 =>
 (ITE v3
 (OP (.idx 1) [v0, v2] fun v4 =>
 (CALL ρ 135 [v0.cellAt v4 0] 1 fun v5 =>
 (OP (.un .not) [v5] fun v6 =>
 (ITE v6
 (OP (.bin .geq) [v2, I 0] fun v7 =>
 (OP (.un .not) [v7] fun v8 =>
 (Q [v8])))
 (OP (.bin .add) [v2, I 1] fun v7 =>
 (N0 [v7]))))))
 (OP (.bin .geq) [I (-1), I 0] fun v4 =>
 (OP (.un .not) [v4] fun v5 =>
 (Q [v5])))))))
def S_path_rises (ρ : Fns) (v0 v1 v2 : PV) (Q : List PV → Prop) : Prop :=
 (OP .len [v2] fun v3 =>
 (LOOP 2 [v1, I 0] fun N0 v4 v5 =>
 (OP (.bin .lss) [v5, v3] fun v6 =>
 (ITE v6
 (OP (.idx 1) [v2, v5] fun v7 =>
 (CALL ρ 105 [v0, v2.cellAt v7 0, v4] 1 fun v8 =>
 (OP (.un .not) [v8] fun v9 =>
 (ITE v9
 (Q [bb false])
 (OP (.bin .add) [v5, I 1] fun v10 =>
 (N0 [v2.cellAt v7 0, v10]))))))
 (Q [bb true])))))
def S_path_Check (ρ : Fns) (v0 v1 v2 v3 : PV) (Q : List PV → Prop) : Prop :=
 (CALL ρ 145 [v0, v1] 2 fun v4 v5 =>
 (SUB 1 (fun R =>
 (OP (.bin .neq) [v5, I 0] fun v6 =>
 (ITE v6
 (R [bb true])
 (OP (.bin .lss) [v3, I 1] fun v7 =>
 (ITE v7
 (R [bb true])
 (OP (.bin .gtr) [v3, I 8] fun v8 =>
 (ITE v8
 (R [bb true])
 (CALL ρ 104 [v2] 1 fun v9 =>
 (OP (.un .not) [v9] fun v10 =>
 (R [v10])))))))))) fun v6 =>
 (ITE v6
 (Q [I 1])
 (OP .len [v2] fun v7 =>
 (OP (.bin .gtr) [v7, v3] fun v8 =>
 (ITE v8
 (Q [I 12])
 (CALL ρ 190 [v0, v1, v2] 1 fun v9 =>
 (OP (.un .not) [v9] fun v10 =>
 (ITE v10
 (Q [I 1])
 (Q [I 0]))))))))))
def S_bkeep_TwinInts (ρ : Fns) (v0 : PV) (Q : List PV → Prop) : Prop :=
 (OP (.app 1 8) [.list [], v0] fun v1 =>
 (Q [v1]))
def S_bkeep_Ints (ρ : Fns) (v0 v1 : PV) (Q : List PV → Prop) : Prop :=
 (OP .len [v0] fun v2 =>
 (OP .len [v1] fun v3 =>
 (OP (.bin .neq) [v2, v3] fun v4 =>
 (ITE v4
 (Q [bb false])
 (LOOP 1 [I 0] fun N0 v5 =>
 (OP .len [v0] fun v6 =>
 (OP (.bin .lss) [v5, v6] fun v7 =>
 (ITE v7
 (OP (.idx 1) [v0, v5] fun v8 =>
 (OP (.idx 1) [v1, v5] fun v9 =>
 (OP (.bin .neq) [v0.cellAt v8 0, v1.cellAt v9 0] fun v10 =>
 (ITE v10
 (Q [bb false])
 (OP (.bin .add) [v5, I 1] fun v11 =>
 (N0 [v11]))))))
 (Q [bb true])))))))))
def S_slices_Contains_int_int (ρ : Fns) (v0 v1 : PV) (Q : List PV → Prop) : Prop :=
 (OP .len [v0] fun v2 =>
 (LOOP 1 [I 0] fun N0 v3 =>
 (OP (.bin .lss) [v3, v2] fun v4 =>
 (ITE v4
 (OP (.idx 1) [v0, v3] fun v5 =>
 (OP (.bin .eql) [v1, v0.cellAt v5 0] fun v6 =>
 (ITE v6
 (OP (.bin .geq) [v3, I 0] fun v7 =>
 (Q [v7]))
 (OP (.bin .add) [v3, I 1] fun v7 =>
 (N0 [v7])))))
 (OP (.bin .geq) [I (-1), I 0] fun v5 =>
 (Q [v5]))))))
def S_key_is (ρ : Fns) (v0 : PV) (Q : List PV → Prop) : Prop :=
 (OP (.bin .geq) [v0, I 0] fun v1 =>
 (ITE v1
 (OP (.bin .lss) [v0, I 4611686018427387904] fun v2 =>
 (Q [v2]))
 (Q [bb false])))
def S_key_Back (ρ : Fns) (v0 v1 : PV) (Q : List PV → Prop) : Prop :=
 (CALL ρ 214 [v0] 1 fun v2 =>
 (OP (.un .not) [v2] fun v3 =>
 (ITE v3
 (Q [I 0, I 1])
 (OP (.bin .lss) [v1, I 0] fun v4 =>
 (ITE v4
 (Q [I 0, I 1])
 (OP (.bin .gtr) [v1, I 61] fun v5 =>
 (ITE v5
 (Q [I 0, I 1])
 (OP (.bin .shl) [I 1, v1] fun v6 =>
 (CALL ρ 175 [v6, v0] 1 fun v7 =>
 (Q [v7, I 0]))))))))))
def S_route_Check (ρ : Fns) (v0 v1 : PV) (Q : List PV → Prop) : Prop :=
 (OP .len [v0] fun v2 =>
 (LOOP 1 [I 0] fun N0 v3 =>
 (OP (.bin .lss) [v3, v2] fun v4 =>
 (ITE v4
 (OP (.idx 1) [v0, v3] fun v5 =>
 (CALL ρ 135 [v0.cellAt v5 0] 1 fun v6 =>
 (OP (.un .not) [v6] fun v7 =>
 (ITE v7
 (Q [I 1])
 (OP (.bin .gtr) [v3, I 0] fun v8 =>
 (ITE v8
 (OP (.bin .sub) [v3, I 1] fun v9 =>
 (OP (.idx 1) [v0, v9] fun v10 =>
 (OP (.bin .geq) [v0.cellAt v10 0, v0.cellAt v5 0] fun v11 =>
 (ITE v11
 (Q [I 1])
 (OP (.bin .add) [v3, I 1] fun v12 =>
 (N0 [v12]))))))
 (OP (.bin .add) [v3, I 1] fun v9 =>
 (N0 [v9]))))))))
 (CALL ρ 44 [v0, v1] 1 fun v5 =>
 (OP (.un .not) [v5] fun v6 =>
 (ITE v6
 (Q [I 1])
 (Q [I 0]))))))))
def S_route_first (ρ : Fns) (v0 v1 : PV) (Q : List PV → Prop) : Prop :=
 (OP .len [v0] fun v2 =>
 (LOOP 3 [I (-1), I 0, I 0] fun N0 v3 v4 v5 =>
 (OP (.bin .lss) [v5, v2] fun v6 =>
 (ITE v6
 (OP (.idx 1) [v0, v5] fun v7 =>
 (CALL ρ 174 [v0.cellAt v7 0] 2 fun v8 v9 =>
 (CALL ρ 175 [v1, v8] 1 fun v10 =>
 (OP (.bin .lss) [v3, I 0] fun v11 =>
 (ITE v11
 (OP (.bin .add) [v5, I 1] fun v12 =>
 (N0 [v0.cellAt v7 0, v10, v12]))
 (OP (.bin .lss) [v10, v4] fun v12 =>
 (ITE v12
 (OP (.bin .add) [v5, I 1] fun v13 =>
 (N0 [v0.cellAt v7 0, v10, v13]))
 (OP (.bin .add) [v5, I 1] fun v13 =>
 (N0 [v3, v4, v13])))))))))
 (Q [v3])))))
def S_route_ahead (ρ : Fns) (v0 v1 : PV) (Q : List PV → Prop) : Prop :=
 (CALL ρ 174 [v1] 2 fun v2 v3 =>
 (OP .len [v0] fun v4 =>
 (LOOP 3 [I (-1), I 0, I 0] fun N0 v5 v6 v7 =>
 (OP (.bin .lss) [v7, v4] fun v8 =>
 (ITE v8
 (OP (.idx 1) [v0, v7] fun v9 =>
 (CALL ρ 174 [v0.cellAt v9 0] 2 fun v10 v11 =>
 (CALL ρ 175 [v10, v2] 1 fun v12 =>
 (OP (.bin .neq) [v0.cellAt v9 0, v1] fun v13 =>
 (ITE v13
 (OP (.bin .lss) [v5, I 0] fun v14 =>
 (ITE v14
 (OP (.bin .add) [v7, I 1] fun v15 =>
 (N0 [v0.cellAt v9 0, v12, v15]))
 (OP (.bin .lss) [v12, v6] fun v15 =>
 (ITE v15
 (OP (.bin .add) [v7, I 1] fun v16 =>
 (N0 [v0.cellAt v9 0, v12, v16]))
 (OP (.bin .add) [v7, I 1] fun v16 =>
 (N0 [v5, v6, v16]))))))
 (OP (.bin .add) [v7, I 1] fun v14 =>
 (N0 [v5, v6, v14])))))))
 (Q [v5]))))))
def S_route_fingers (ρ : Fns) (v0 v1 : PV) (Q : List PV → Prop) : Prop :=
 (CALL ρ 174 [v1] 2 fun v2 v3 =>
 (LOOP 2 [I 0, .list []] fun N0 v4 v5 =>
 (OP (.bin .lss) [v4, I 62] fun v6 =>
 (ITE v6
 (CALL ρ 208 [v2, v4] 2 fun v7 v8 =>
 (CALL ρ 209 [v0, v7] 1 fun v9 =>
 (OP (.bin .neq) [v9, v1] fun v10 =>
 (ITE v10
 (OP (.rows 1) [v9] fun v11 =>
 (OP (.app 1 8) [v5, v11] fun v12 =>
 (OP (.bin .add) [v4, I 1] fun v13 =>
 (N0 [v13, v12]))))
 (OP (.bin .add) [v4, I 1] fun v11 =>
 (N0 [v11, v5]))))))
 (CALL ρ 210 [v5] 1 fun v7 =>
 (CALL ρ 211 [v7] 1 fun v8 =>
 (Q [v8])))))))
def S_route_next (ρ : Fns) (v0 v1 v2 : PV) (Q : List PV → Prop) : Prop :=
 (CALL ρ 199 [v1, v2] 1 fun v3 =>
 (CALL ρ 200 [v1, v2] 1 fun v4 =>
 (OP (.rows 1) [v4] fun v5 =>
 (OP (.app 1 8) [v3, v5] fun v6 =>
 (OP .len [v6] fun v7 =>
 (LOOP 2 [v2, I 0] fun N0 v8 v9 =>
 (OP (.bin .lss) [v9, v7] fun v10 =>
 (ITE v10
 (OP (.idx 1) [v6, v9] fun v11 =>
 (CALL ρ 105 [v0, v6.cellAt v11 0, v8] 1 fun v12 =>
 (ITE v12
 (OP (.bin .add) [v9, I 1] fun v13 =>
 (N0 [v6.cellAt v11 0, v13]))
 (OP (.bin .add) [v9, I 1] fun v13 =>
 (N0 [v8, v13])))))
 (OP (.bin .eql) [v8, v2] fun v11 =>
 (ITE v11
 (Q [I (-1)])
 (Q [v8])))))))))))
def S_route_asked (ρ : Fns) (v0 v1 v2 : PV) (Q : List PV → Prop) : Prop :=
 (CALL ρ 198 [v1, v2] 1 fun v3 =>
 (OP (.bin .eql) [v3, I 0] fun v4 =>
 (ITE v4
 (CALL ρ 103 [v0] 2 fun v5 v6 =>
 (Q [v6]))
 (Q [v3]))))
def S_route_Next (ρ : Fns) (v0 v1 v2 : PV) (Q : List PV → Prop) : Prop :=
 (CALL ρ 185 [v0, v1, v2] 1 fun v3 =>
 (OP (.bin .neq) [v3, I 0] fun v4 =>
 (ITE v4
 (Q [I 0, bb false, v3])
 (CALL ρ 186 [v0, v1, v2] 1 fun v5 =>
 (OP (.bin .lss) [v5, I 0] fun v6 =>
 (ITE v6
 (Q [I 0, bb false, I 0])
 (Q [v5, bb true, I 0])))))))
def S_script_config (ρ : Fns) (v0 v1 v2 v3 v4 v5 v6 : PV) (Q : List PV → Prop) : Prop :=
 (CALL ρ 127 [(.str (ByteArray.mk (List.toArray [110, 111, 100, 101, 115]))), v0, I 1, I 8, I 13] 1 fun v7 =>
 (CALL ρ 127 [(.str (ByteArray.mk (List.toArray [116, 111, 112, 105, 99, 115]))), v1, I 1, I 4, I 13] 1 fun v8 =>
 (CALL ρ 127 [(.str (ByteArray.mk (List.toArray [107, 105, 100, 115]))), v2, I 1, I 4, I 13] 1 fun v9 =>
 (CALL ρ 127 [(.str (ByteArray.mk (List.toArray [100, 101, 112, 116, 104]))), v3, I 1, I 8, I 13] 1 fun v10 =>
 (CALL ρ 127 [(.str (ByteArray.mk (List.toArray [107, 101, 101, 112]))), v4, I 1, I 16, I 13] 1 fun v11 =>
 (CALL ρ 127 [(.str (ByteArray.mk (List.toArray [119, 105, 110, 100, 111, 119]))), v5, I 1, I 16, I 13] 1 fun v12 =>
 (CALL ρ 127 [(.str (ByteArray.mk (List.toArray [113, 117, 101, 117, 101]))), v6, I 2, I 32, I 13] 1 fun v13 =>
 (OP (.rows 1) [v7, v8, v9, v10, v11, v12, v13] fun v14 =>
 (CALL ρ 126 [v14] 1 fun v15 =>
 (Q [v15]))))))))))
def S_script_Config (ρ : Fns) (v0 v1 v2 v3 v4 v5 v6 : PV) (Q : List PV → Prop) : Prop :=
 (CALL ρ 79 [v0, v1, v2, v3, v4, v5, v6] 1 fun v7 =>
 (CALL ρ 78 [v7] 1 fun v8 =>
 (Q [v8])))
def S_epoch_Check (ρ : Fns) (v0 : PV) (Q : List PV → Prop) : Prop :=
 (OP (.bin .lss) [v0, I 1] fun v1 =>
 (ITE v1
 (Q [I 1])
 (OP (.bin .gtr) [v0, I 1073741824] fun v2 =>
 (ITE v2
 (Q [I 1])
 (OP (.bin .rem) [v0, I 16] fun v3 =>
 (CALL ρ 135 [v3] 1 fun v4 =>
 (OP (.un .not) [v4] fun v5 =>
 (ITE v5
 (Q [I 1])
 (Q [I 0])))))))))
def S_epoch_Who (ρ : Fns) (v0 : PV) (Q : List PV → Prop) : Prop :=
 (CALL ρ 201 [v0] 1 fun v1 =>
 (OP (.bin .neq) [v1, I 0] fun v2 =>
 (ITE v2
 (Q [I 0, v1])
 (OP (.bin .rem) [v0, I 16] fun v3 =>
 (Q [v3, I 0])))))
def S_msg_in (ρ : Fns) (v0 v1 v2 : PV) (Q : List PV → Prop) : Prop :=
 (OP (.bin .geq) [v0, v1] fun v3 =>
 (ITE v3
 (OP (.bin .leq) [v0, v2] fun v4 =>
 (Q [v4]))
 (Q [bb false])))
def S_msg_Counted (ρ : Fns) (v0 : PV) (Q : List PV → Prop) : Prop :=
 (CALL ρ 68 [v0, I 1, I 1073741824] 1 fun v1 =>
 (Q [v1]))
def S_msg_Value (ρ : Fns) (v0 : PV) (Q : List PV → Prop) : Prop :=
 (CALL ρ 68 [v0, I 0, I 2147483647] 1 fun v1 =>
 (Q [v1]))
def S_cast_in (ρ : Fns) (v0 v1 v2 : PV) (Q : List PV → Prop) : Prop :=
 (OP (.bin .geq) [v0, v1] fun v3 =>
 (ITE v3
 (OP (.bin .leq) [v0, v2] fun v4 =>
 (Q [v4]))
 (Q [bb false])))
def S_view_right (ρ : Fns) (v0 v1 : PV) (Q : List PV → Prop) : Prop :=
 (OP (.bin .geq) [v0, I 0] fun v2 =>
 (ITE v2
 (OP (.bin .leq) [v0, I 1073741824] fun v3 =>
 (ITE v3
 (OP (.bin .geq) [v1, I 0] fun v4 =>
 (ITE v4
 (OP (.bin .leq) [v1, I 1000] fun v5 =>
 (Q [v5]))
 (Q [bb false])))
 (Q [bb false])))
 (Q [bb false])))
def S_view_Check (ρ : Fns) (v0 : PV) (Q : List PV → Prop) : Prop :=
 (OP .len [v0] fun v1 =>
 (OP (.bin .lss) [v1, I 1] fun v2 =>
 (ITE v2
 (Q [I 1])
 (OP .len [v0] fun v3 =>
 (OP (.bin .gtr) [v3, I 8] fun v4 =>
 (ITE v4
 (Q [I 1])
 (OP .len [v0] fun v5 =>
 (LOOP 1 [I 0] fun N0 v6 =>
 (OP (.bin .lss) [v6, v5] fun v7 =>
 (ITE v7
 (OP (.idx 2) [v0, v6] fun v8 =>
 (CALL ρ 132 [v0.cellAt v8 0, v0.cellAt v8 1] 1 fun v9 =>
 (OP (.un .not) [v9] fun v10 =>
 (ITE v10
 (OP (.bin .geq) [v6, I 0] fun v11 =>
 (OP .sel [v4, bb true, v11] fun v12 =>
 (ITE v12
 (Q [I 1])
 (Q [I 0]))))
 (OP (.bin .add) [v6, I 1] fun v11 =>
 (N0 [v11]))))))
 (OP (.bin .geq) [I (-1), I 0] fun v8 =>
 (OP .sel [v4, bb true, v8] fun v9 =>
 (ITE v9
 (Q [I 1])
 (Q [I 0]))))))))))))))
def S_kids_right (ρ : Fns) (v0 v1 v2 v3 v4 : PV) (Q : List PV → Prop) : Prop :=
 (CALL ρ 105 [v0, v1, v2] 1 fun v5 =>
 (ITE v5
 (CALL ρ 80 [v3] 1 fun v6 =>
 (ITE v6
 (OP (.bin .geq) [v4, I 0] fun v7 =>
 (ITE v7
 (OP (.bin .leq) [v4, I 6] fun v8 =>
 (Q [v8]))
 (Q [bb false])))
 (Q [bb false])))
 (Q [bb false])))
def S_kids_Check (ρ : Fns) (v0 v1 v2 v3 : PV) (Q : List PV → Prop) : Prop :=
 (CALL ρ 145 [v0, v1] 2 fun v4 v5 =>
 (SUB 1 (fun R =>
 (OP (.bin .neq) [v5, I 0] fun v6 =>
 (ITE v6
 (R [bb true])
 (OP (.bin .lss) [v2, I 1] fun v7 =>
 (ITE v7
 (R [bb true])
 (OP (.bin .gtr) [v2, I 4] fun v8 =>
 (ITE v8
 (R [bb true])
 (OP .len [v3] fun v9 =>
 (OP (.bin .gtr) [v9, v2] fun v10 =>
 (R [v10])))))))))) fun v6 =>
 (ITE v6
 (Q [I 1])
 (OP .len [v3] fun v7 =>
 (LOOP 1 [I 0] fun N0 v8 =>
 (OP (.bin .lss) [v8, v7] fun v9 =>
 (ITE v9
 (OP (.idx 3) [v3, v8] fun v10 =>
 (CALL ρ 191 [v0, v1, v3.cellAt v10 0, v3.cellAt v10 1, v3.cellAt v10 2] 1 fun v11 =>
 (OP (.un .not) [v11] fun v12 =>
 (ITE v12
 (Q [I 1])
 (OP (.bin .gtr) [v8, I 0] fun v13 =>
 (ITE v13
 (OP (.bin .sub) [v8, I 1] fun v14 =>
 (OP (.idx 3) [v3, v14] fun v15 =>
 (CALL ρ 105 [v0, v3.cellAt v15 0, v3.cellAt v10 0] 1 fun v16 =>
 (OP (.un .not) [v16] fun v17 =>
 (ITE v17
 (Q [I 1])
 (OP (.bin .add) [v8, I 1] fun v18 =>
 (N0 [v18])))))))
 (OP (.bin .add) [v8, I 1] fun v14 =>
 (N0 [v14]))))))))
 (Q [I 0]))))))))
def S_keep_right (ρ : Fns) (v0 v1 : PV) (Q : List PV → Prop) : Prop :=
 (OP .len [v0] fun v2 =>
 (LOOP 1 [I 0] fun N0 v3 =>
 (OP (.bin .lss) [v3, v2] fun v4 =>
 (ITE v4
 (OP (.idx 2) [v0, v3] fun v5 =>
 (OP (.bin .lss) [v0.cellAt v5 0, I 1] fun v6 =>
 (ITE v6
 (Q [bb false])
 (OP .len [v0] fun v7 =>
 (OP (.bin .sub) [v1, v7] fun v8 =>
 (OP (.bin .add) [v8, v3] fun v9 =>
 (OP (.bin .neq) [v0.cellAt v5 0, v9] fun v10 =>
 (ITE v10
 (Q [bb false])
 (CALL ρ 35 [v0.cellAt v5 1] 1 fun v11 =>
 (OP (.un .not) [v11] fun v12 =>
 (ITE v12
 (Q [bb false])
 (OP (.bin .add) [v3, I 1] fun v13 =>
 (N0 [v13])))))))))))))
 (Q [bb true])))))
def S_keep_Check (ρ : Fns) (v0 v1 v2 : PV) (Q : List PV → Prop) : Prop :=
 (CALL ρ 80 [v1] 1 fun v3 =>
 (OP (.un .not) [v3] fun v4 =>
 (ITE v4
 (Q [I 1])
 (OP (.bin .lss) [v2, I 1] fun v5 =>
 (ITE v5
 (Q [I 1])
 (OP (.bin .gtr) [v2, I 16] fun v6 =>
 (ITE v6
 (Q [I 1])
 (OP .len [v0] fun v7 =>
 (OP (.bin .gtr) [v7, v2] fun v8 =>
 (ITE v8
 (Q [I 1])
 (CALL ρ 212 [v0, v1] 1 fun v9 =>
 (OP (.un .not) [v9] fun v10 =>
 (ITE v10
 (Q [I 1])
 (Q [I 0]))))))))))))))
def S_ahead_fits (ρ : Fns) (v0 v1 v2 : PV) (Q : List PV → Prop) : Prop :=
 (OP (.bin .gtr) [v0, v1] fun v3 =>
 (ITE v3
 (OP (.bin .add) [v1, v2] fun v4 =>
 (OP (.bin .lss) [v0, v4] fun v5 =>
 (ITE v5
 (OP (.bin .lss) [v0, I 1073741824] fun v6 =>
 (Q [v6]))
 (Q [bb false]))))
 (Q [bb false])))
def S_ahead_Check (ρ : Fns) (v0 v1 v2 : PV) (Q : List PV → Prop) : Prop :=
 (SUB 1 (fun R =>
 (CALL ρ 80 [v1] 1 fun v3 =>
 (OP (.un .not) [v3] fun v4 =>
 (ITE v4
 (R [bb true])
 (OP (.bin .lss) [v2, I 1] fun v5 =>
 (ITE v5
 (R [bb true])
 (OP (.bin .gtr) [v2, I 16] fun v6 =>
 (R [v6])))))))) fun v3 =>
 (ITE v3
 (Q [I 1])
 (OP .len [v0] fun v4 =>
 (LOOP 1 [I 0] fun N0 v5 =>
 (OP (.bin .lss) [v5, v4] fun v6 =>
 (ITE v6
 (OP (.idx 2) [v0, v5] fun v7 =>
 (CALL ρ 213 [v0.cellAt v7 0, v1, v2] 1 fun v8 =>
 (OP (.un .not) [v8] fun v9 =>
 (ITE v9
 (Q [I 1])
 (CALL ρ 35 [v0.cellAt v7 1] 1 fun v10 =>
 (OP (.un .not) [v10] fun v11 =>
 (ITE v11
 (Q [I 1])
 (OP (.bin .gtr) [v5, I 0] fun v12 =>
 (ITE v12
 (OP (.bin .sub) [v5, I 1] fun v13 =>
 (OP (.idx 2) [v0, v13] fun v14 =>
 (OP (.bin .geq) [v0.cellAt v14 0, v0.cellAt v7 0] fun v15 =>
 (ITE v15
 (Q [I 1])
 (OP (.bin .add) [v5, I 1] fun v16 =>
 (N0 [v16]))))))
 (OP (.bin .add) [v5, I 1] fun v13 =>
 (N0 [v13])))))))))))
 (Q [I 0])))))))
def S_queue_Event (ρ : Fns) (v0 v1 v2 v3 v4 v5 : PV) (Q : List PV → Prop) : Prop :=
 (OP (.bin .eql) [v0, I 1] fun v6 =>
 (ITE v6
 (SUB 1 (fun R =>
 (CALL ρ 201 [v1] 1 fun v7 =>
 (OP (.bin .eql) [v7, I 0] fun v8 =>
 (ITE v8
 (CALL ρ 80 [v2] 1 fun v9 =>
 (R [v9]))
 (R [bb false]))))) fun v7 =>
 (ITE v7
 (CALL ρ 35 [v4] 1 fun v8 =>
 (OP (.un .not) [v8] fun v9 =>
 (ITE v9
 (Q [I 1])
 (OP (.eqs true [true, true, true, true, true, true]) [v0, I 0, I 0, v3, I 0, v5, v0, I 0, I 0, I 0, I 0, I 0] fun v10 =>
 (ITE v10
 (Q [I 1])
 (Q [I 0]))))))
 (OP (.un .not) [bb false] fun v8 =>
 (ITE v8
 (Q [I 1])
 (OP (.eqs true [true, true, true, true, true, true]) [v0, I 0, I 0, v3, I 0, v5, v0, I 0, I 0, I 0, I 0, I 0] fun v9 =>
 (ITE v9
 (Q [I 1])
 (Q [I 0])))))))
 (OP (.bin .eql) [v0, I 2] fun v7 =>
 (ITE v7
 (SUB 1 (fun R =>
 (CALL ρ 201 [v1] 1 fun v8 =>
 (OP (.bin .eql) [v8, I 0] fun v9 =>
 (ITE v9
 (CALL ρ 80 [v2] 1 fun v10 =>
 (R [v10]))
 (R [bb false]))))) fun v8 =>
 (ITE v8
 (OP (.bin .geq) [v3, v2] fun v9 =>
 (ITE v9
 (OP (.bin .leq) [v3, I 1073741824] fun v10 =>
 (OP (.un .not) [v10] fun v11 =>
 (ITE v11
 (Q [I 1])
 (OP (.eqs true [true, true, true, true, true, true]) [v0, I 0, I 0, I 0, v4, v5, v0, I 0, I 0, I 0, I 0, I 0] fun v12 =>
 (ITE v12
 (Q [I 1])
 (Q [I 0]))))))
 (OP (.un .not) [bb false] fun v10 =>
 (ITE v10
 (Q [I 1])
 (OP (.eqs true [true, true, true, true, true, true]) [v0, I 0, I 0, I 0, v4, v5, v0, I 0, I 0, I 0, I 0, I 0] fun v11 =>
 (ITE v11
 (Q [I 1])
 (Q [I 0])))))))
 (OP (.un .not) [bb false] fun v9 =>
 (ITE v9
 (Q [I 1])
 (OP (.eqs true [true, true, true, true, true, true]) [v0, I 0, I 0, I 0, v4, v5, v0, I 0, I 0, I 0, I 0, I 0] fun v10 =>
 (ITE v10
 (Q [I 1])
 (Q [I 0])))))))
 (OP (.bin .eql) [v0, I 3] fun v8 =>
 (ITE v8
 (SUB 1 (fun R =>
 (OP (.bin .geq) [v5, I 1] fun v9 =>
 (ITE v9
 (OP (.bin .leq) [v5, I 40] fun v10 =>
 (R [v10]))
 (R [bb false])))) fun v9 =>
 (ITE v9
 (CALL ρ 135 [v4] 1 fun v10 =>
 (OP (.un .not) [v10] fun v11 =>
 (ITE v11
 (Q [I 1])
 (OP (.eqs true [true, true, true, true, true, true]) [v0, v1, v2, v3, I 0, I 0, v0, I 0, I 0, I 0, I 0, I 0] fun v12 =>
 (ITE v12
 (Q [I 1])
 (Q [I 0]))))))
 (OP (.un .not) [bb false] fun v10 =>
 (ITE v10
 (Q [I 1])
 (OP (.eqs true [true, true, true, true, true, true]) [v0, v1, v2, v3, I 0, I 0, v0, I 0, I 0, I 0, I 0, I 0] fun v11 =>
 (ITE v11
 (Q [I 1])
 (Q [I 0])))))))
 (OP (.bin .eql) [v0, I 4] fun v9 =>
 (ITE v9
 (OP (.bin .geq) [v5, I 1] fun v10 =>
 (ITE v10
 (OP (.bin .leq) [v5, I 40] fun v11 =>
 (OP (.un .not) [v11] fun v12 =>
 (ITE v12
 (Q [I 1])
 (OP (.eqs true [true, true, true, true, true, true]) [v0, v1, v2, v3, v4, I 0, v0, I 0, I 0, I 0, I 0, I 0] fun v13 =>
 (ITE v13
 (Q [I 1])
 (Q [I 0]))))))
 (OP (.un .not) [bb false] fun v11 =>
 (ITE v11
 (Q [I 1])
 (OP (.eqs true [true, true, true, true, true, true]) [v0, v1, v2, v3, v4, I 0, v0, I 0, I 0, I 0, I 0, I 0] fun v12 =>
 (ITE v12
 (Q [I 1])
 (Q [I 0])))))))
 (OP (.bin .eql) [v0, I 5] fun v10 =>
 (ITE v10
 (OP (.un .not) [bb true] fun v11 =>
 (ITE v11
 (Q [I 1])
 (OP (.eqs true [true, true, true, true, true, true]) [v0, v1, v2, v3, v4, v5, v0, I 0, I 0, I 0, I 0, I 0] fun v12 =>
 (ITE v12
 (Q [I 1])
 (Q [I 0])))))
 (OP (.un .not) [bb false] fun v11 =>
 (ITE v11
 (Q [I 1])
 (OP (.eqs true [true, true, true, true, true, true]) [v0, v1, v2, v3, v4, v5, v0, I 0, I 0, I 0, I 0, I 0] fun v12 =>
 (ITE v12
 (Q [I 1])
 (Q [I 0])))))))))))))))
def S_queue_Check (ρ : Fns) (v0 v1 : PV) (Q : List PV → Prop) : Prop :=
 (SUB 1 (fun R =>
 (OP (.bin .lss) [v1, I 2] fun v2 =>
 (ITE v2
 (R [bb true])
 (OP (.bin .gtr) [v1, I 32] fun v3 =>
 (ITE v3
 (R [bb true])
 (OP .len [v0] fun v4 =>
 (OP (.bin .gtr) [v4, v1] fun v5 =>
 (R [v5])))))))) fun v2 =>
 (SUB 1 (fun R =>
 (ITE v2
 (R [bb true])
 (OP .len [v0] fun v3 =>
 (LOOP 1 [I 0] fun N0 v4 =>
 (OP (.bin .lss) [v4, v3] fun v5 =>
 (ITE v5
 (OP (.idx 6) [v0, v4] fun v6 =>
 (CALL ρ 172 [v0.cellAt v6 0, v0.cellAt v6 1, v0.cellAt v6 2, v0.cellAt v6 3, v0.cellAt v6 4, v0.cellAt v6 5] 1 fun v7 =>
 (OP (.bin .neq) [v7, I 0] fun v8 =>
 (ITE v8
 (OP (.bin .geq) [v4, I 0] fun v9 =>
 (OP .sel [v2, bb true, v9] fun v10 =>
 (R [v10])))
 (OP (.bin .add) [v4, I 1] fun v9 =>
 (N0 [v9]))))))
 (OP (.bin .geq) [I (-1), I 0] fun v6 =>
 (OP .sel [v2, bb true, v6] fun v7 =>
 (R [v7]))))))))) fun v3 =>
 (ITE v3
 (Q [I 1])
 (OP .len [v0] fun v4 =>
 (OP (.bin .eql) [v4, v1] fun v5 =>
 (ITE v5
 (OP (.bin .sub) [v1, I 1] fun v6 =>
 (OP (.idx 6) [v0, v6] fun v7 =>
 (OP (.bin .neq) [v0.cellAt v7 0, I 2] fun v8 =>
 (ITE v8
 (Q [I 1])
 (Q [I 0])))))
 (Q [I 0])))))))
def S_flow_zero (ρ : Fns) (v0 v1 v2 v3 v4 : PV) (Q : List PV → Prop) : Prop :=
 (OP (.bin .eql) [v0, I 0] fun v5 =>
 (ITE v5
 (OP (.bin .eql) [v1, I 0] fun v6 =>
 (ITE v6
 (OP (.bin .eql) [v2, I 0] fun v7 =>
 (ITE v7
 (OP .len [v3] fun v8 =>
 (OP (.bin .eql) [v8, I 0] fun v9 =>
 (ITE v9
 (OP .len [v4] fun v10 =>
 (OP (.bin .eql) [v10, I 0] fun v11 =>
 (Q [v11])))
 (Q [bb false]))))
 (Q [bb false])))
 (Q [bb false])))
 (Q [bb false])))
def S_flow_right (ρ : Fns) (v0 v1 v2 v3 v4 v5 v6 v7 v8 v9 v10 v11 : PV) (Q : List PV → Prop) : Prop :=
 (CALL ρ 202 [v7, v8, v9, v10, v11] 1 fun v12 =>
 (ITE v12
 (Q [bb true])
 (CALL ρ 201 [v7] 1 fun v13 =>
 (OP (.bin .eql) [v13, I 0] fun v14 =>
 (ITE v14
 (CALL ρ 80 [v8] 1 fun v15 =>
 (ITE v15
 (OP (.bin .geq) [v9, v8] fun v16 =>
 (ITE v16
 (OP (.bin .leq) [v9, I 1073741824] fun v17 =>
 (ITE v17
 (CALL ρ 203 [v10, v8, v4] 1 fun v18 =>
 (OP (.bin .eql) [v18, I 0] fun v19 =>
 (ITE v19
 (CALL ρ 204 [v11, v8, v5] 1 fun v20 =>
 (OP (.bin .eql) [v20, I 0] fun v21 =>
 (Q [v21])))
 (Q [bb false]))))
 (Q [bb false])))
 (Q [bb false])))
 (Q [bb false])))
 (Q [bb false]))))))
def S_flow_Check (ρ : Fns) (v0 v1 v2 v3 v4 v5 v6 v7 v8 v9 v10 v11 v12 : PV) (Q : List PV → Prop) : Prop :=
 (CALL ρ 39 [v0, v1, v2, v3, v4, v5, v6] 1 fun v13 =>
 (OP (.bin .neq) [v13, I 0] fun v14 =>
 (ITE v14
 (Q [v13])
 (CALL ρ 192 [v0, v1, v2, v3, v4, v5, v6, v7, v8, v9, v10, v11] 1 fun v15 =>
 (OP (.un .not) [v15] fun v16 =>
 (ITE v16
 (Q [I 1])
 (CALL ρ 171 [v12, v6] 1 fun v17 =>
 (OP (.bin .neq) [v17, I 0] fun v18 =>
 (ITE v18
 (Q [I 1])
 (Q [I 0]))))))))))
def S_graft_link (ρ : Fns) (v0 v1 v2 : PV) (Q : List PV → Prop) : Prop :=
 (OP (.bin .eql) [v2, I 0] fun v3 =>
 (ITE v3
 (Q [bb true])
 (OP (.bin .gtr) [v2, I 0] fun v4 =>
 (ITE v4
 (OP (.bin .sub) [v2, I 1] fun v5 =>
 (CALL ρ 105 [v0, v5, v1] 1 fun v6 =>
 (Q [v6])))
 (Q [bb false])))))
def S_graft_rooted (ρ : Fns) (v0 v1 v2 v3 v4 v5 v6 v7 v8 v9 v10 v11 v12 v13 v14 v15 v16 : PV) (Q : List PV → Prop) : Prop :=
 (OP (.bin .eql) [v4, I 0] fun v17 =>
 (ITE v17
 (Q [bb true])
 (CALL ρ 189 [v4] 2 fun v18 v19 =>
 (OP (.bin .eql) [v19, I 0] fun v20 =>
 (ITE v20
 (OP (.bin .eql) [v18, v0] fun v21 =>
 (ITE v21
 (OP (.bin .leq) [v4, v3] fun v22 =>
 (ITE v22
 (OP (.bin .eql) [v5, I 0] fun v23 =>
 (ITE v23
 (OP (.bin .eql) [v11, v4] fun v24 =>
 (Q [v24]))
 (Q [bb false])))
 (Q [bb false])))
 (Q [bb false])))
 (Q [bb false]))))))
def S_graft_placed (ρ : Fns) (v0 v1 v2 v3 v4 v5 v6 v7 v8 v9 v10 v11 v12 v13 v14 v15 : PV) (Q : List PV → Prop) : Prop :=
 (OP .len [v8] fun v16 =>
 (OP (.bin .eql) [v16, I 0] fun v17 =>
 (ITE v17
 (OP (.bin .eql) [v4, I 0] fun v18 =>
 (Q [v18]))
 (OP (.idx 1) [v8, I 0] fun v18 =>
 (OP (.bin .add) [v8.cellAt v18 0, I 1] fun v19 =>
 (OP (.bin .eql) [v4, v19] fun v20 =>
 (Q [v20])))))))
def S_graft_right (ρ : Fns) (v0 v1 v2 v3 v4 v5 v6 v7 v8 v9 v10 v11 v12 v13 v14 v15 v16 v17 v18 v19 v20 v21 v22 v23 v24 : PV) (Q : List PV → Prop) : Prop :=
 (SUB 1 (fun R =>
 (OP (.bin .lss) [v11, I 0] fun v25 =>
 (ITE v25
 (R [bb true])
 (OP (.bin .gtr) [v11, I 1073741824] fun v26 =>
 (ITE v26
 (R [bb true])
 (OP (.bin .lss) [v16, I 0] fun v27 =>
 (ITE v27
 (R [bb true])
 (OP (.bin .gtr) [v16, I 1000] fun v28 =>
 (R [v28]))))))))) fun v25 =>
 (ITE v25
 (Q [bb false])
 (SUB 1 (fun R =>
 (CALL ρ 164 [v7, v8, v13] 1 fun v26 =>
 (ITE v26
 (CALL ρ 164 [v7, v8, v14] 1 fun v27 =>
 (ITE v27
 (CALL ρ 164 [v7, v8, v15] 1 fun v28 =>
 (R [v28]))
 (R [bb false])))
 (R [bb false])))) fun v26 =>
 (ITE v26
 (CALL ρ 165 [v8, v9, v10, v11, v12, v13, v14, v15, v16, v17, v18, v19, v20, v21, v22, v23, v24] 1 fun v27 =>
 (ITE v27
 (CALL ρ 166 [v9, v10, v11, v12, v13, v14, v15, v16, v17, v18, v19, v20, v21, v22, v23, v24] 1 fun v28 =>
 (ITE v28
 (CALL ρ 167 [v7, v8, v17, v3] 1 fun v29 =>
 (OP (.bin .eql) [v29, I 0] fun v30 =>
 (ITE v30
 (CALL ρ 168 [v7, v8, v2, v18] 1 fun v31 =>
 (OP (.bin .eql) [v31, I 0] fun v32 =>
 (ITE v32
 (CALL ρ 169 [v0, v1, v2, v3, v4, v5, v6, v19, v20, v21, v22, v23, v24] 1 fun v33 =>
 (OP (.bin .eql) [v33, I 0] fun v34 =>
 (Q [v34])))
 (Q [bb false]))))
 (Q [bb false]))))
 (Q [bb false])))
 (Q [bb false])))
 (Q [bb false])))))
def S_graft_Check (ρ : Fns) (v0 v1 v2 v3 v4 v5 v6 v7 v8 v9 v10 v11 v12 v13 v14 v15 v16 v17 v18 v19 v20 v21 v22 v23 v24 : PV) (Q : List PV → Prop) : Prop :=
 (CALL ρ 39 [v0, v1, v2, v3, v4, v5, v6] 1 fun v25 =>
 (OP (.bin .neq) [v25, I 0] fun v26 =>
 (ITE v26
 (Q [v25])
 (OP (.bin .lss) [v7, I 0] fun v27 =>
 (ITE v27
 (Q [I 1])
 (OP (.bin .geq) [v7, v1] fun v28 =>
 (ITE v28
 (Q [I 1])
 (OP (.bin .lss) [v8, I 0] fun v29 =>
 (ITE v29
 (Q [I 1])
 (OP (.bin .geq) [v8, v0] fun v30 =>
 (ITE v30
 (Q [I 1])
 (CALL ρ 128 [v0, v1, v2, v3, v4, v5, v6, v7, v8, v9, v10, v11, v12, v13, v14, v15, v16, v17, v18, v19, v20, v21, v22, v23, v24] 1 fun v31 =>
 (OP (.un .not) [v31] fun v32 =>
 (ITE v32
 (Q [I 1])
 (Q [I 0])))))))))))))))
def S_cast_calls (ρ : Fns) (v0 v1 v2 v3 v4 v5 v6 v7 v8 v9 v10 v11 v12 v13 v14 v15 : PV) (Q : List PV → Prop) : Prop :=
 (OP .len [v11] fun v16 =>
 (LOOP 2 [I 0, I 0] fun N0 v17 v18 =>
 (OP (.bin .lss) [v18, v16] fun v19 =>
 (ITE v19
 (OP (.idx 3) [v11, v18] fun v20 =>
 (OP (.bin .leq) [v11.cellAt v20 0, v17] fun v21 =>
 (ITE v21
 (Q [bb false])
 (OP (.bin .gtr) [v11.cellAt v20 0, v13] fun v22 =>
 (ITE v22
 (Q [bb false])
 (OP (.bin .sub) [v1, I 1] fun v23 =>
 (CALL ρ 34 [v11.cellAt v20 1, I 0, v23] 1 fun v24 =>
 (OP (.un .not) [v24] fun v25 =>
 (ITE v25
 (Q [bb false])
 (CALL ρ 34 [v11.cellAt v20 2, I 0, I 20] 1 fun v26 =>
 (OP (.un .not) [v26] fun v27 =>
 (ITE v27
 (Q [bb false])
 (OP (.bin .add) [v18, I 1] fun v28 =>
 (N0 [v11.cellAt v20 0, v28]))))))))))))))
 (OP .len [v11] fun v20 =>
 (OP (.bin .leq) [v20, I 40] fun v21 =>
 (Q [v21])))))))
def S_cast_mark (ρ : Fns) (v0 v1 v2 : PV) (Q : List PV → Prop) : Prop :=
 (CALL ρ 34 [v0, I 0, I 1073741824] 1 fun v3 =>
 (ITE v3
 (CALL ρ 34 [v1, I 0, I 1073741824] 1 fun v4 =>
 (ITE v4
 (CALL ρ 34 [v2, I 0, I 2199023255551] 1 fun v5 =>
 (Q [v5]))
 (Q [bb false])))
 (Q [bb false])))
def S_cast_taken (ρ : Fns) (v0 v1 v2 v3 v4 v5 v6 v7 v8 v9 v10 v11 : PV) (Q : List PV → Prop) : Prop :=
 (OP (.bin .sub) [v0, I 1] fun v12 =>
 (CALL ρ 34 [v7, I 0, v12] 1 fun v13 =>
 (ITE v13
 (OP (.bin .sub) [v1, I 1] fun v14 =>
 (CALL ρ 34 [v10, I 0, v14] 1 fun v15 =>
 (ITE v15
 (CALL ρ 80 [v8] 1 fun v16 =>
 (ITE v16
 (CALL ρ 80 [v9] 1 fun v17 =>
 (ITE v17
 (CALL ρ 35 [v11] 1 fun v18 =>
 (Q [v18]))
 (Q [bb false])))
 (Q [bb false])))
 (Q [bb false]))))
 (Q [bb false]))))
def S_cast_right (ρ : Fns) (v0 v1 v2 v3 v4 v5 v6 v7 v8 v9 v10 v11 v12 v13 v14 v15 v16 : PV) (Q : List PV → Prop) : Prop :=
 (SUB 1 (fun R =>
 (CALL ρ 80 [v9] 1 fun v17 =>
 (OP (.un .not) [v17] fun v18 =>
 (ITE v18
 (R [bb true])
 (CALL ρ 34 [v13, I 0, I 1073741824] 1 fun v19 =>
 (OP (.un .not) [v19] fun v20 =>
 (ITE v20
 (R [bb true])
 (CALL ρ 34 [v14, I 0, I 40] 1 fun v21 =>
 (OP (.un .not) [v21] fun v22 =>
 (ITE v22
 (R [bb true])
 (CALL ρ 81 [v0, v1, v2, v3, v4, v5, v6, v8, v9, v10, v11, v12, v13, v14, v15, v16] 1 fun v23 =>
 (OP (.un .not) [v23] fun v24 =>
 (R [v24]))))))))))))) fun v17 =>
 (ITE v17
 (Q [bb false])
 (SUB 1 (fun R =>
 (OP .len [v10] fun v18 =>
 (OP (.bin .neq) [v18, v0] fun v19 =>
 (ITE v19
 (R [bb true])
 (OP .len [v11] fun v20 =>
 (OP (.bin .neq) [v20, v1] fun v21 =>
 (ITE v21
 (R [bb true])
 (OP .len [v15] fun v22 =>
 (OP (.bin .neq) [v22, v0] fun v23 =>
 (ITE v23
 (R [bb true])
 (OP .len [v16] fun v24 =>
 (OP (.bin .gtr) [v24, I 64] fun v25 =>
 (R [v25]))))))))))))) fun v18 =>
 (ITE v18
 (Q [bb false])
 (OP .len [v11] fun v19 =>
 (LOOP 1 [I 0] fun N0 v20 =>
 (OP (.bin .lss) [v20, v19] fun v21 =>
 (ITE v21
 (OP (.idx 16) [v11, v20] fun v22 =>
 (CALL ρ 82 [v0, v1, v2, v3, v4, v5, v6, v20, v7, v11.cellAt v22 0, v11.cellAt v22 1, v11.cellAt v22 2, v11.cellAt v22 3, v11.cellAt v22 4, v11.cellAt v22 5, v11.cellAt v22 6, v11.cellAt v22 7, v11.cellAt v22 8, v11.cellAt v22 9, v11.cellAt v22 10, v11.cellAt v22 11, v11.cellAt v22 12, v11.cellAt v22 13, v11.cellAt v22 14, v11.cellAt v22 15] 1 fun v23 =>
 (OP (.bin .neq) [v23, I 0] fun v24 =>
 (ITE v24
 (Q [bb false])
 (OP (.bin .add) [v20, I 1] fun v25 =>
 (N0 [v25]))))))
 (OP .len [v15] fun v22 =>
 (LOOP 1 [I 0] fun N1 v23 =>
 (OP (.bin .lss) [v23, v22] fun v24 =>
 (ITE v24
 (OP (.idx 3) [v15, v23] fun v25 =>
 (CALL ρ 85 [v15.cellAt v25 0, v15.cellAt v25 1, v15.cellAt v25 2] 1 fun v26 =>
 (OP (.un .not) [v26] fun v27 =>
 (ITE v27
 (OP (.bin .geq) [v23, I 0] fun v28 =>
 (CALL ρ 86 [v10] 1 fun v29 =>
 (OP (.bin .eql) [v29, I 0] fun v30 =>
 (ITE v30
 (OP (.un .not) [v28] fun v31 =>
 (ITE v31
 (OP .len [v16] fun v32 =>
 (LOOP 1 [I 0] fun N2 v33 =>
 (OP (.bin .lss) [v33, v32] fun v34 =>
 (ITE v34
 (OP (.idx 5) [v16, v33] fun v35 =>
 (CALL ρ 89 [v0, v1, v2, v3, v4, v5, v6, v16.cellAt v35 0, v16.cellAt v35 1, v16.cellAt v35 2, v16.cellAt v35 3, v16.cellAt v35 4] 1 fun v36 =>
 (OP (.un .not) [v36] fun v37 =>
 (ITE v37
 (OP (.bin .geq) [v33, I 0] fun v38 =>
 (ITE v31
 (OP (.un .not) [v38] fun v39 =>
 (Q [v39]))
 (Q [bb false])))
 (OP (.bin .add) [v33, I 1] fun v38 =>
 (N2 [v38]))))))
 (OP (.bin .geq) [I (-1), I 0] fun v35 =>
 (ITE v31
 (OP (.un .not) [v35] fun v36 =>
 (Q [v36]))
 (Q [bb false])))))))
 (Q [bb false])))
 (Q [bb false])))))
 (OP (.bin .add) [v23, I 1] fun v28 =>
 (N1 [v28]))))))
 (OP (.bin .geq) [I (-1), I 0] fun v25 =>
 (CALL ρ 86 [v10] 1 fun v26 =>
 (OP (.bin .eql) [v26, I 0] fun v27 =>
 (ITE v27
 (OP (.un .not) [v25] fun v28 =>
 (ITE v28
 (OP .len [v16] fun v29 =>
 (LOOP 1 [I 0] fun N2 v30 =>
 (OP (.bin .lss) [v30, v29] fun v31 =>
 (ITE v31
 (OP (.idx 5) [v16, v30] fun v32 =>
 (CALL ρ 89 [v0, v1, v2, v3, v4, v5, v6, v16.cellAt v32 0, v16.cellAt v32 1, v16.cellAt v32 2, v16.cellAt v32 3, v16.cellAt v32 4] 1 fun v33 =>
 (OP (.un .not) [v33] fun v34 =>
 (ITE v34
 (OP (.bin .geq) [v30, I 0] fun v35 =>
 (ITE v28
 (OP (.un .not) [v35] fun v36 =>
 (Q [v36]))
 (Q [bb false])))
 (OP (.bin .add) [v30, I 1] fun v35 =>
 (N2 [v35]))))))
 (OP (.bin .geq) [I (-1), I 0] fun v32 =>
 (ITE v28
 (OP (.un .not) [v32] fun v33 =>
 (Q [v33]))
 (Q [bb false])))))))
 (Q [bb false])))
 (Q [bb false])))))))))))))))))
def S_cast_Check (ρ : Fns) (v0 v1 v2 v3 v4 v5 v6 v7 v8 v9 v10 v11 v12 v13 v14 v15 v16 : PV) (Q : List PV → Prop) : Prop :=
 (CALL ρ 39 [v0, v1, v2, v3, v4, v5, v6] 1 fun v17 =>
 (OP (.bin .neq) [v17, I 0] fun v18 =>
 (ITE v18
 (Q [v17])
 (OP (.bin .sub) [v0, I 1] fun v19 =>
 (CALL ρ 34 [v7, I 0, v19] 1 fun v20 =>
 (OP (.un .not) [v20] fun v21 =>
 (ITE v21
 (Q [I 9])
 (OP (.un .not) [v8] fun v22 =>
 (ITE v22
 (Q [I 9])
 (CALL ρ 40 [v0, v1, v2, v3, v4, v5, v6, v7, v8, v9, v10, v11, v12, v13, v14, v15, v16] 1 fun v23 =>
 (OP (.un .not) [v23] fun v24 =>
 (ITE v24
 (Q [I 1])
 (Q [I 0])))))))))))))
def S_bkeep_Peers (ρ : Fns) (v0 v1 : PV) (Q : List PV → Prop) : Prop :=
 (OP .len [v0] fun v2 =>
 (OP .len [v1] fun v3 =>
 (OP (.bin .neq) [v2, v3] fun v4 =>
 (ITE v4
 (Q [bb false])
 (LOOP 1 [I 0] fun N0 v5 =>
 (OP .len [v0] fun v6 =>
 (OP (.bin .lss) [v5, v6] fun v7 =>
 (ITE v7
 (OP (.idx 2) [v0, v5] fun v8 =>
 (OP (.idx 2) [v1, v5] fun v9 =>
 (OP (.eqs true [true, true]) [v0.cellAt v8 0, v0.cellAt v8 1, v1.cellAt v9 0, v1.cellAt v9 1] fun v10 =>
 (ITE v10
 (Q [bb false])
 (OP (.bin .add) [v5, I 1] fun v11 =>
 (N0 [v11]))))))
 (Q [bb true])))))))))
def S_bkeep_Kids (ρ : Fns) (v0 v1 : PV) (Q : List PV → Prop) : Prop :=
 (OP .len [v0] fun v2 =>
 (OP .len [v1] fun v3 =>
 (OP (.bin .neq) [v2, v3] fun v4 =>
 (ITE v4
 (Q [bb false])
 (LOOP 1 [I 0] fun N0 v5 =>
 (OP .len [v0] fun v6 =>
 (OP (.bin .lss) [v5, v6] fun v7 =>
 (ITE v7
 (OP (.idx 3) [v0, v5] fun v8 =>
 (OP (.idx 3) [v1, v5] fun v9 =>
 (OP (.eqs true [true, true, true]) [v0.cellAt v8 0, v0.cellAt v8 1, v0.cellAt v8 2, v1.cellAt v9 0, v1.cellAt v9 1, v1.cellAt v9 2] fun v10 =>
 (ITE v10
 (Q [bb false])
 (OP (.bin .add) [v5, I 1] fun v11 =>
 (N0 [v11]))))))
 (Q [bb true])))))))))
def S_bkeep_Items (ρ : Fns) (v0 v1 : PV) (Q : List PV → Prop) : Prop :=
 (OP .len [v0] fun v2 =>
 (OP .len [v1] fun v3 =>
 (OP (.bin .neq) [v2, v3] fun v4 =>
 (ITE v4
 (Q [bb false])
 (LOOP 1 [I 0] fun N0 v5 =>
 (OP .len [v0] fun v6 =>
 (OP (.bin .lss) [v5, v6] fun v7 =>
 (ITE v7
 (OP (.idx 2) [v0, v5] fun v8 =>
 (OP (.idx 2) [v1, v5] fun v9 =>
 (OP (.eqs true [true, true]) [v0.cellAt v8 0, v0.cellAt v8 1, v1.cellAt v9 0, v1.cellAt v9 1] fun v10 =>
 (ITE v10
 (Q [bb false])
 (OP (.bin .add) [v5, I 1] fun v11 =>
 (N0 [v11]))))))
 (Q [bb true])))))))))
def S_bkeep_Events (ρ : Fns) (v0 v1 : PV) (Q : List PV → Prop) : Prop :=
 (OP .len [v0] fun v2 =>
 (OP .len [v1] fun v3 =>
 (OP (.bin .neq) [v2, v3] fun v4 =>
 (ITE v4
 (Q [bb false])
 (LOOP 1 [I 0] fun N0 v5 =>
 (OP .len [v0] fun v6 =>
 (OP (.bin .lss) [v5, v6] fun v7 =>
 (ITE v7
 (OP (.idx 6) [v0, v5] fun v8 =>
 (OP (.idx 6) [v1, v5] fun v9 =>
 (OP (.eqs true [true, true, true, true, true, true]) [v0.cellAt v8 0, v0.cellAt v8 1, v0.cellAt v8 2, v0.cellAt v8 3, v0.cellAt v8 4, v0.cellAt v8 5, v1.cellAt v9 0, v1.cellAt v9 1, v1.cellAt v9 2, v1.cellAt v9 3, v1.cellAt v9 4, v1.cellAt v9 5] fun v10 =>
 (ITE v10
 (Q [bb false])
 (OP (.bin .add) [v5, I 1] fun v11 =>
 (N0 [v11]))))))
 (Q [bb true])))))))))
def S_bkeep_Stream (ρ : Fns) (v0 v1 v2 v3 v4 v5 v6 v7 v8 v9 : PV) (Q : List PV → Prop) : Prop :=
 (OP (.bin .eql) [v0, v5] fun v10 =>
 (ITE v10
 (OP (.bin .eql) [v1, v6] fun v11 =>
 (ITE v11
 (OP (.bin .eql) [v2, v7] fun v12 =>
 (ITE v12
 (CALL ρ 140 [v3, v8] 1 fun v13 =>
 (ITE v13
 (CALL ρ 140 [v4, v9] 1 fun v14 =>
 (Q [v14]))
 (Q [bb false])))
 (Q [bb false])))
 (Q [bb false])))
 (Q [bb false])))
def S_bkeep_Topic (ρ : Fns) (v0 v1 v2 v3 v4 v5 v6 v7 v8 v9 v10 v11 v12 v13 v14 v15 v16 v17 v18 v19 v20 v21 v22 v23 v24 v25 v26 v27 v28 v29 v30 v31 : PV) (Q : List PV → Prop) : Prop :=
 (OP (.beq false) [v0, v16] fun v32 =>
 (ITE v32
 (OP (.beq false) [v1, v17] fun v33 =>
 (ITE v33
 (OP (.bin .eql) [v2, v18] fun v34 =>
 (ITE v34
 (OP (.bin .eql) [v3, v19] fun v35 =>
 (ITE v35
 (OP (.bin .eql) [v4, v20] fun v36 =>
 (ITE v36
 (OP (.bin .eql) [v5, v21] fun v37 =>
 (ITE v37
 (OP (.bin .eql) [v6, v22] fun v38 =>
 (ITE v38
 (OP (.bin .eql) [v7, v23] fun v39 =>
 (ITE v39
 (CALL ρ 16 [v8, v24] 1 fun v40 =>
 (ITE v40
 (CALL ρ 96 [v9, v25] 1 fun v41 =>
 (ITE v41
 (CALL ρ 97 [v10, v11, v12, v13, v14, v26, v27, v28, v29, v30] 1 fun v42 =>
 (ITE v42
 (CALL ρ 98 [v15, v31] 1 fun v43 =>
 (Q [v43]))
 (Q [bb false])))
 (Q [bb false])))
 (Q [bb false])))
 (Q [bb false])))
 (Q [bb false])))
 (Q [bb false])))
 (Q [bb false])))
 (Q [bb false])))
 (Q [bb false])))
 (Q [bb false])))
 (Q [bb false])))
def S_bkeep_Node (ρ : Fns) (v0 v1 v2 v3 v4 v5 v6 v7 v8 v9 v10 v11 v12 v13 v14 v15 v16 v17 : PV) (Q : List PV → Prop) : Prop :=
 (SUB 1 (fun R =>
 (OP (.beq true) [v0, v9] fun v18 =>
 (ITE v18
 (R [bb true])
 (OP (.bin .neq) [v1, v10] fun v19 =>
 (ITE v19
 (R [bb true])
 (CALL ρ 45 [v2, v11] 1 fun v20 =>
 (OP (.un .not) [v20] fun v21 =>
 (ITE v21
 (R [bb true])
 (OP .len [v3] fun v22 =>
 (OP .len [v12] fun v23 =>
 (OP (.bin .neq) [v22, v23] fun v24 =>
 (ITE v24
 (R [bb true])
 (OP .len [v4] fun v25 =>
 (OP .len [v13] fun v26 =>
 (OP (.bin .neq) [v25, v26] fun v27 =>
 (ITE v27
 (R [bb true])
 (OP (.bin .neq) [v5, v14] fun v28 =>
 (ITE v28
 (R [bb true])
 (OP (.bin .neq) [v6, v15] fun v29 =>
 (ITE v29
 (R [bb true])
 (OP .len [v7] fun v30 =>
 (OP .len [v16] fun v31 =>
 (OP (.bin .neq) [v30, v31] fun v32 =>
 (ITE v32
 (R [bb true])
 (OP .len [v8] fun v33 =>
 (OP .len [v17] fun v34 =>
 (OP (.bin .neq) [v33, v34] fun v35 =>
 (R [v35])))))))))))))))))))))))))))) fun v18 =>
 (ITE v18
 (Q [bb false])
 (LOOP 1 [I 0] fun N0 v19 =>
 (OP .len [v3] fun v20 =>
 (OP (.bin .lss) [v19, v20] fun v21 =>
 (ITE v21
 (OP (.idx 16) [v3, v19] fun v22 =>
 (OP (.idx 16) [v12, v19] fun v23 =>
 (CALL ρ 46 [v3.cellAt v22 0, v3.cellAt v22 1, v3.cellAt v22 2, v3.cellAt v22 3, v3.cellAt v22 4, v3.cellAt v22 5, v3.cellAt v22 6, v3.cellAt v22 7, v3.cellAt v22 8, v3.cellAt v22 9, v3.cellAt v22 10, v3.cellAt v22 11, v3.cellAt v22 12, v3.cellAt v22 13, v3.cellAt v22 14, v3.cellAt v22 15, v12.cellAt v23 0, v12.cellAt v23 1, v12.cellAt v23 2, v12.cellAt v23 3, v12.cellAt v23 4, v12.cellAt v23 5, v12.cellAt v23 6, v12.cellAt v23 7, v12.cellAt v23 8, v12.cellAt v23 9, v12.cellAt v23 10, v12.cellAt v23 11, v12.cellAt v23 12, v12.cellAt v23 13, v12.cellAt v23 14, v12.cellAt v23 15] 1 fun v24 =>
 (OP (.un .not) [v24] fun v25 =>
 (ITE v25
 (Q [bb false])
 (OP (.bin .add) [v19, I 1] fun v26 =>
 (N0 [v26])))))))
 (LOOP 1 [I 0] fun N1 v22 =>
 (OP .len [v4] fun v23 =>
 (OP (.bin .lss) [v22, v23] fun v24 =>
 (ITE v24
 (OP (.idx 3) [v4, v22] fun v25 =>
 (OP (.idx 3) [v13, v22] fun v26 =>
 (OP (.eqs true [true, true, true]) [v4.cellAt v25 0, v4.cellAt v25 1, v4.cellAt v25 2, v13.cellAt v26 0, v13.cellAt v26 1, v13.cellAt v26 2] fun v27 =>
 (ITE v27
 (Q [bb false])
 (OP (.bin .add) [v22, I 1] fun v28 =>
 (N1 [v28]))))))
 (LOOP 1 [I 0] fun N2 v25 =>
 (OP .len [v7] fun v26 =>
 (OP (.bin .lss) [v25, v26] fun v27 =>
 (ITE v27
 (OP (.idx 3) [v7, v25] fun v28 =>
 (OP (.idx 3) [v16, v25] fun v29 =>
 (OP (.eqs true [true, true, true]) [v7.cellAt v28 0, v7.cellAt v28 1, v7.cellAt v28 2, v16.cellAt v29 0, v16.cellAt v29 1, v16.cellAt v29 2] fun v30 =>
 (ITE v30
 (Q [bb false])
 (OP (.bin .add) [v25, I 1] fun v31 =>
 (N2 [v31]))))))
 (LOOP 1 [I 0] fun N3 v28 =>
 (OP .len [v8] fun v29 =>
 (OP (.bin .lss) [v28, v29] fun v30 =>
 (ITE v30
 (OP (.idx 5) [v8, v28] fun v31 =>
 (OP (.idx 5) [v17, v28] fun v32 =>
 (OP (.eqs true [true, true, true, true, true]) [v8.cellAt v31 0, v8.cellAt v31 1, v8.cellAt v31 2, v8.cellAt v31 3, v8.cellAt v31 4, v17.cellAt v32 0, v17.cellAt v32 1, v17.cellAt v32 2, v17.cellAt v32 3, v17.cellAt v32 4] fun v33 =>
 (ITE v33
 (Q [bb false])
 (OP (.bin .add) [v28, I 1] fun v34 =>
 (N3 [v34]))))))
 (Q [bb true])))))))))))))))))))
def S_law18_Heavy (ρ : Fns) (v0 v1 v2 v3 v4 v5 : PV) (Q : List PV → Prop) : Prop :=
 (OP .len [v3] fun v6 =>
 (OP (.bin .gtr) [v6, I 30] fun v7 =>
 (ITE v7
 (Q [bb true])
 (OP .len [v4] fun v8 =>
 (OP (.bin .gtr) [v8, I 30] fun v9 =>
 (ITE v9
 (Q [bb true])
 (OP .len [v5] fun v10 =>
 (OP (.bin .gtr) [v10, I 50] fun v11 =>
 (Q [v11])))))))))
def S_law19_Heavy (ρ : Fns) (v0 v1 v2 v3 v4 v5 v6 v7 v8 v9 v10 v11 v12 v13 v14 v15 : PV) (Q : List PV → Prop) : Prop :=
 (OP .len [v8] fun v16 =>
 (OP (.bin .gtr) [v16, I 20] fun v17 =>
 (ITE v17
 (Q [bb true])
 (OP .len [v9] fun v18 =>
 (OP (.bin .gtr) [v18, I 20] fun v19 =>
 (ITE v19
 (Q [bb true])
 (CALL ρ 65 [v10, v11, v12, v13, v14, v15] 1 fun v20 =>
 (Q [v20]))))))))
def S_law21_Heavy (ρ : Fns) (v0 v1 v2 v3 v4 v5 v6 v7 v8 : PV) (Q : List PV → Prop) : Prop :=
 (SUB 1 (fun R =>
 (OP .len [v2] fun v9 =>
 (OP (.bin .gtr) [v9, I 12] fun v10 =>
 (ITE v10
 (R [bb true])
 (OP .len [v3] fun v11 =>
 (OP (.bin .gtr) [v11, I 8] fun v12 =>
 (ITE v12
 (R [bb true])
 (OP .len [v4] fun v13 =>
 (OP (.bin .gtr) [v13, I 60] fun v14 =>
 (ITE v14
 (R [bb true])
 (OP .len [v7] fun v15 =>
 (OP (.bin .gtr) [v15, I 12] fun v16 =>
 (ITE v16
 (R [bb true])
 (OP .len [v8] fun v17 =>
 (OP (.bin .gtr) [v17, I 80] fun v18 =>
 (R [v18])))))))))))))))) fun v9 =>
 (ITE v9
 (Q [bb true])
 (LOOP 1 [I 0] fun N0 v10 =>
 (OP .len [v3] fun v11 =>
 (OP (.bin .lss) [v10, v11] fun v12 =>
 (ITE v12
 (OP (.idx 16) [v3, v10] fun v13 =>
 (CALL ρ 30 [v3.cellAt v13 0, v3.cellAt v13 1, v3.cellAt v13 2, v3.cellAt v13 3, v3.cellAt v13 4, v3.cellAt v13 5, v3.cellAt v13 6, v3.cellAt v13 7, v3.cellAt v13 8, v3.cellAt v13 9, v3.cellAt v13 10, v3.cellAt v13 11, v3.cellAt v13 12, v3.cellAt v13 13, v3.cellAt v13 14, v3.cellAt v13 15] 1 fun v14 =>
 (ITE v14
 (Q [bb true])
 (OP (.bin .add) [v10, I 1] fun v15 =>
 (N0 [v15])))))
 (Q [bb false])))))))
def S_law19_Full (ρ : Fns) (Q : List PV → Prop) : Prop :=
 (Q [I 8, I 4, I 2, I 8, I 8, I 8, I 16])
def S_slices_Clone_api_Peer_api_Peer (ρ : Fns) (v0 : PV) (Q : List PV → Prop) : Prop :=
 (NILQ v0 false fun v1 =>
 (ITE v1
 (Q [.list []])
 (OP (.rows 2) [] fun v2 =>
 (OP (.app 2 16) [v2, v0] fun v3 =>
 (Q [v3])))))
def S_slices_Clone_api_Call_api_Call (ρ : Fns) (v0 : PV) (Q : List PV → Prop) : Prop :=
 (NILQ v0 false fun v1 =>
 (ITE v1
 (Q [.list []])
 (OP (.rows 3) [] fun v2 =>
 (OP (.app 3 24) [v2, v0] fun v3 =>
 (Q [v3])))))
def S_slices_Clone_api_Mark_api_Mark (ρ : Fns) (v0 : PV) (Q : List PV → Prop) : Prop :=
 (NILQ v0 false fun v1 =>
 (ITE v1
 (Q [.list []])
 (OP (.rows 3) [] fun v2 =>
 (OP (.app 3 24) [v2, v0] fun v3 =>
 (Q [v3])))))
def S_slices_Clone_api_Mark2_api_Mark2 (ρ : Fns) (v0 : PV) (Q : List PV → Prop) : Prop :=
 (NILQ v0 false fun v1 =>
 (ITE v1
 (Q [.list []])
 (OP (.rows 5) [] fun v2 =>
 (OP (.app 5 40) [v2, v0] fun v3 =>
 (Q [v3])))))
def S_slices_Clone_api_Kid_api_Kid (ρ : Fns) (v0 : PV) (Q : List PV → Prop) : Prop :=
 (NILQ v0 false fun v1 =>
 (ITE v1
 (Q [.list []])
 (OP (.rows 3) [] fun v2 =>
 (OP (.app 3 24) [v2, v0] fun v3 =>
 (Q [v3])))))
def S_slices_Clone_api_Event_api_Event (ρ : Fns) (v0 : PV) (Q : List PV → Prop) : Prop :=
 (NILQ v0 false fun v1 =>
 (ITE v1
 (Q [.list []])
 (OP (.rows 6) [] fun v2 =>
 (OP (.app 6 48) [v2, v0] fun v3 =>
 (Q [v3])))))
def S_slices_Clone_api_Item_api_Item (ρ : Fns) (v0 : PV) (Q : List PV → Prop) : Prop :=
 (NILQ v0 false fun v1 =>
 (ITE v1
 (Q [.list []])
 (OP (.rows 2) [] fun v2 =>
 (OP (.app 2 16) [v2, v0] fun v3 =>
 (Q [v3])))))
def S_slices_Clone_int_int (ρ : Fns) (v0 : PV) (Q : List PV → Prop) : Prop :=
 (NILQ v0 false fun v1 =>
 (ITE v1
 (Q [.list []])
 (OP (.rows 1) [] fun v2 =>
 (OP (.app 1 8) [v2, v0] fun v3 =>
 (Q [v3])))))
def S_graft_Has (ρ : Fns) (v0 v1 v2 v3 v4 v5 v6 v7 v8 v9 v10 v11 v12 v13 v14 v15 : PV) (Q : List PV → Prop) : Prop :=
 (OP (.bin .neq) [v3, I 0] fun v16 =>
 (ITE v16
 (Q [bb true])
 (OP .len [v8] fun v17 =>
 (OP (.bin .gtr) [v17, I 0] fun v18 =>
 (Q [v18])))))
def S_graft_Twin (ρ : Fns) (v0 v1 v2 v3 v4 v5 v6 v7 v8 v9 v10 v11 v12 v13 v14 v15 : PV) (Q : List PV → Prop) : Prop :=
 (CALL ρ 75 [v8] 1 fun v16 =>
 (CALL ρ 119 [v9] 1 fun v17 =>
 (CALL ρ 120 [v15] 1 fun v18 =>
 (CALL ρ 155 [v13] 1 fun v19 =>
 (CALL ρ 155 [v14] 1 fun v20 =>
 (Q [v0, v1, v2, v3, v4, v5, v6, v7, v16, v17, v10, v11, v12, v19, v20, v18]))))))
def S_queue_gap (ρ : Fns) (v0 v1 v2 v3 v4 v5 : PV) (Q : List PV → Prop) : Prop :=
 (OP (.bin .eql) [v0, I 1] fun v6 =>
 (ITE v6
 (Q [I 2, v1, v2, v2, I 0, I 0, bb true])
 (OP (.bin .eql) [v0, I 2] fun v7 =>
 (ITE v7
 (Q [v0, v1, v2, v3, v4, v5, bb true])
 (Q [I 0, I 0, I 0, I 0, I 0, I 0, bb false])))))
def S_queue_Put (ρ : Fns) (v0 v1 v2 v3 v4 v5 v6 v7 : PV) (Q : List PV → Prop) : Prop :=
 (SUB 1 (fun R =>
 (CALL ρ 171 [v0, v1] 1 fun v8 =>
 (OP (.bin .neq) [v8, I 0] fun v9 =>
 (ITE v9
 (R [bb true])
 (CALL ρ 172 [v2, v3, v4, v5, v6, v7] 1 fun v10 =>
 (OP (.bin .neq) [v10, I 0] fun v11 =>
 (R [v11]))))))) fun v8 =>
 (ITE v8
 (Q [.list [], I 1])
 (CALL ρ 120 [v0] 1 fun v9 =>
 (OP .len [v0] fun v10 =>
 (OP (.bin .sub) [v1, I 1] fun v11 =>
 (OP (.bin .lss) [v10, v11] fun v12 =>
 (ITE v12
 (OP (.rows 6) [v2, v3, v4, v5, v6, v7] fun v13 =>
 (OP (.app 6 48) [v9, v13] fun v14 =>
 (Q [v14, I 0])))
 (CALL ρ 173 [v2, v3, v4, v5, v6, v7] 7 fun v13 v14 v15 v16 v17 v18 v19 =>
 (OP (.un .not) [v19] fun v20 =>
 (ITE v20
 (Q [.list [], I 6])
 (OP .len [v0] fun v21 =>
 (OP (.bin .lss) [v21, v1] fun v22 =>
 (ITE v22
 (OP (.rows 6) [v13, v14, v15, v16, v17, v18] fun v23 =>
 (OP (.app 6 48) [v9, v23] fun v24 =>
 (Q [v24, I 0])))
 (OP (.bin .sub) [v1, I 1] fun v23 =>
 (OP (.idx 6) [v9, v23] fun v24 =>
 (OP (.bin .neq) [v14, v9.cellAt v24 1] fun v25 =>
 (ITE v25
 (Q [.list [], I 6])
 (OP (.bin .add) [v9.cellAt v24 3, I 1] fun v26 =>
 (OP (.bin .neq) [v15, v26] fun v27 =>
 (ITE v27
 (Q [.list [], I 6])
 (OP (.set 3) [v9, v24, v16] fun v28 =>
 (Q [v28, I 0]))))))))))))))))))))))
def S_queue_Fit (ρ : Fns) (v0 v1 v2 v3 v4 v5 v6 v7 : PV) (Q : List PV → Prop) : Prop :=
 (CALL ρ 141 [v0, v1, v2, v3, v4, v5, v6, v7] 2 fun v8 v9 =>
 (OP (.bin .neq) [v9, I 0] fun v10 =>
 (ITE v10
 (CALL ρ 120 [v0] 1 fun v11 =>
 (Q [v11]))
 (Q [v8]))))
def S_cast_Heed (ρ : Fns) (v0 v1 v2 v3 v4 v5 v6 v7 v8 v9 : PV) (Q : List PV → Prop) : Prop :=
 (OP .len [v2] fun v10 =>
 (OP (.bin .sub) [v10, I 1] fun v11 =>
 (CALL ρ 34 [v9, I 0, v11] 1 fun v12 =>
 (ITE v12
 (OP (.idx 2) [v2, v9] fun v13 =>
 (OP (.bin .neq) [v2.cellAt v13 0, I 0] fun v14 =>
 (Q [v14])))
 (Q [bb false])))))
def S_view_place (ρ : Fns) (v0 v1 : PV) (Q : List PV → Prop) : Prop :=
 (CALL ρ 86 [v0] 1 fun v2 =>
 (OP (.bin .eql) [v2, I 0] fun v3 =>
 (ITE v3
 (OP (.bin .lss) [v1, I 0] fun v4 =>
 (ITE v4
 (Q [I 9])
 (OP .len [v0] fun v5 =>
 (OP (.bin .geq) [v1, v5] fun v6 =>
 (ITE v6
 (Q [I 9])
 (Q [v2]))))))
 (Q [v2]))))
def S_view_Live (ρ : Fns) (v0 v1 : PV) (Q : List PV → Prop) : Prop :=
 (CALL ρ 184 [v0, v1] 1 fun v2 =>
 (OP (.bin .neq) [v2, I 0] fun v3 =>
 (ITE v3
 (Q [.list [], v2])
 (OP .len [v0] fun v4 =>
 (LOOP 2 [I 0, .list []] fun N0 v5 v6 =>
 (OP (.bin .lss) [v5, v4] fun v7 =>
 (ITE v7
 (OP (.idx 2) [v0, v5] fun v8 =>
 (OP (.bin .eql) [v5, v1] fun v9 =>
 (ITE v9
 (OP (.rows 1) [v5] fun v10 =>
 (OP (.app 1 8) [v6, v10] fun v11 =>
 (OP (.bin .add) [v5, I 1] fun v12 =>
 (N0 [v12, v11]))))
 (OP (.bin .gtr) [v0.cellAt v8 0, I 0] fun v10 =>
 (ITE v10
 (OP (.bin .lss) [v0.cellAt v8 1, I 4] fun v11 =>
 (ITE v11
 (OP (.rows 1) [v5] fun v12 =>
 (OP (.app 1 8) [v6, v12] fun v13 =>
 (OP (.bin .add) [v5, I 1] fun v14 =>
 (N0 [v14, v13]))))
 (OP (.bin .add) [v5, I 1] fun v12 =>
 (N0 [v12, v6]))))
 (OP (.bin .add) [v5, I 1] fun v11 =>
 (N0 [v11, v6])))))))
 (Q [v6, I 0]))))))))
def S_cast_Next (ρ : Fns) (v0 v1 v2 v3 v4 v5 v6 v7 v8 v9 v10 : PV) (Q : List PV → Prop) : Prop :=
 (CALL ρ 156 [v3, v0] 2 fun v11 v12 =>
 (CALL ρ 157 [v10, v11, v0] 3 fun v13 v14 v15 =>
 (OP (.un .not) [v14] fun v16 =>
 (ITE v16
 (Q [I (-1)])
 (Q [v13])))))
def S_cast_near (ρ : Fns) (v0 v1 v2 v3 v4 v5 v6 v7 v8 v9 v10 : PV) (Q : List PV → Prop) : Prop :=
 (OP (.idx 16) [v4, v10] fun v11 =>
 (OP .len [v4.cellAt v11 9] fun v12 =>
 (LOOP 2 [I 0, .list []] fun N0 v13 v14 =>
 (OP (.bin .lss) [v13, v12] fun v15 =>
 (ITE v15
 (OP (.idx 3) [v4.cellAt v11 9, v13] fun v16 =>
 (OP (.rows 1) [(v4.cellAt v11 9).cellAt v16 0] fun v17 =>
 (OP (.app 1 8) [v14, v17] fun v18 =>
 (OP (.bin .add) [v13, I 1] fun v19 =>
 (N0 [v19, v18])))))
 (OP (.bin .sub) [v4.cellAt v11 4, I 1] fun v16 =>
 (OP (.rows 1) [v16] fun v17 =>
 (OP (.app 1 8) [v14, v17] fun v18 =>
 (OP .len [v4.cellAt v11 9] fun v19 =>
 (OP (.bin .eql) [v19, I 0] fun v20 =>
 (ITE v20
 (CALL ρ 122 [v4.cellAt v11 0, v4.cellAt v11 1, v4.cellAt v11 2, v4.cellAt v11 3, v4.cellAt v11 4, v4.cellAt v11 5, v4.cellAt v11 6, v4.cellAt v11 7, v4.cellAt v11 8, v4.cellAt v11 9, v4.cellAt v11 10, v4.cellAt v11 11, v4.cellAt v11 12, v4.cellAt v11 13, v4.cellAt v11 14, v4.cellAt v11 15] 1 fun v21 =>
 (OP (.un .not) [v21] fun v22 =>
 (ITE v22
 (CALL ρ 123 [v0, v1, v2, v3, v4, v5, v6, v7, v8, v9, v10] 1 fun v23 =>
 (OP (.rows 1) [v23] fun v24 =>
 (OP (.app 1 8) [v18, v24] fun v25 =>
 (Q [v25]))))
 (Q [v18]))))
 (Q [v18]))))))))))))
def S_cast_Begin (ρ : Fns) (v0 v1 v2 v3 v4 v5 v6 v7 v8 v9 v10 v11 v12 v13 v14 v15 v16 v17 v18 : PV) (Q : List PV → Prop) : Prop :=
 (CALL ρ 12 [v0, v1, v2, v3, v4, v5, v6, v7, v8, v9, v10, v11, v12, v13, v14, v15, v16] 1 fun v19 =>
 (OP (.bin .neq) [v19, I 0] fun v20 =>
 (ITE v20
 (Q [bb false, I 0, .list [], .list [], .list [], I 0, I 0, .list [], .list [], .list [], I 0, v19])
 (SUB 1 (fun R =>
 (OP (.bin .sub) [v1, I 1] fun v21 =>
 (CALL ρ 34 [v17, I 0, v21] 1 fun v22 =>
 (OP (.un .not) [v22] fun v23 =>
 (ITE v23
 (R [bb true])
 (CALL ρ 35 [v18] 1 fun v24 =>
 (OP (.un .not) [v24] fun v25 =>
 (R [v25])))))))) fun v21 =>
 (ITE v21
 (Q [bb false, I 0, .list [], .list [], .list [], I 0, I 0, .list [], .list [], .list [], I 0, I 1])
 (OP (.bin .geq) [v14, I 40] fun v22 =>
 (ITE v22
 (Q [bb false, I 0, .list [], .list [], .list [], I 0, I 0, .list [], .list [], .list [], I 0, I 11])
 (SUB 5 (fun R =>
 (OP .len [v11] fun v23 =>
 (LOOP 2 [I 0, .list []] fun N0 v24 v25 =>
 (OP (.bin .lss) [v24, v23] fun v26 =>
 (ITE v26
 (OP (.idx 16) [v11, v24] fun v27 =>
 (CALL ρ 69 [v11.cellAt v27 0, v11.cellAt v27 1, v11.cellAt v27 2, v11.cellAt v27 3, v11.cellAt v27 4, v11.cellAt v27 5, v11.cellAt v27 6, v11.cellAt v27 7, v11.cellAt v27 8, v11.cellAt v27 9, v11.cellAt v27 10, v11.cellAt v27 11, v11.cellAt v27 12, v11.cellAt v27 13, v11.cellAt v27 14, v11.cellAt v27 15] 16 fun v28 v29 v30 v31 v32 v33 v34 v35 v36 v37 v38 v39 v40 v41 v42 v43 =>
 (OP (.rows 16) [v28, v29, v30, v31, v32, v33, v34, v35, v36, v37, v38, v39, v40, v41, v42, v43] fun v44 =>
 (OP (.app 16 200) [v25, v44] fun v45 =>
 (OP (.bin .add) [v24, I 1] fun v46 =>
 (N0 [v46, v45]))))))
 (CALL ρ 70 [v10] 1 fun v27 =>
 (CALL ρ 71 [v12] 1 fun v28 =>
 (CALL ρ 72 [v15] 1 fun v29 =>
 (CALL ρ 73 [v16] 1 fun v30 =>
 (R [v30, v29, v28, v27, v25])))))))))) fun v23 v24 v25 v26 v27 =>
 (OP (.bin .add) [v14, I 1] fun v28 =>
 (OP (.rows 3) [v28, v17, I 0] fun v29 =>
 (OP (.app 3 24) [v25, v29] fun v30 =>
 (SUB 2 (fun R =>
 (OP (.idx 3) [v24, v7] fun v31 =>
 (OP (.bin .gtr) [v24.cellAt v31 0, v9] fun v32 =>
 (ITE v32
 (R [bb false, v24])
 (OP (.bin .lss) [v24.cellAt v31 0, v9] fun v33 =>
 (ITE v33
 (OP (.set 0) [v24, v31, v9] fun v34 =>
 (OP (.set 1) [v34, v31, I 0] fun v35 =>
 (OP (.set 2) [v35, v31, I 0] fun v36 =>
 (OP (.bin .shr) [v36.cellAt v31 2, v28] fun v37 =>
 (OP (.bin .and) [v37, I 1] fun v38 =>
 (OP (.bin .eql) [v38, I 1] fun v39 =>
 (ITE v39
 (R [bb false, v36])
 (OP (.bin .shl) [I 1, v28] fun v40 =>
 (OP (.bin .or) [v36.cellAt v31 2, v40] fun v41 =>
 (OP (.set 2) [v36, v31, v41] fun v42 =>
 (R [bb true, v42])))))))))))
 (OP (.bin .shr) [v24.cellAt v31 2, v28] fun v34 =>
 (OP (.bin .and) [v34, I 1] fun v35 =>
 (OP (.bin .eql) [v35, I 1] fun v36 =>
 (ITE v36
 (R [bb false, v24])
 (OP (.bin .shl) [I 1, v28] fun v37 =>
 (OP (.bin .or) [v24.cellAt v31 2, v37] fun v38 =>
 (OP (.set 2) [v24, v31, v38] fun v39 =>
 (R [bb true, v39])))))))))))))) fun v31 v32 =>
 (OP (.idx 16) [v27, v17] fun v33 =>
 (ITE (v27.cellAt v33 1)
 (OP (.rows 5) [v7, v9, v28, v17, v18] fun v34 =>
 (OP (.app 5 40) [v23, v34] fun v35 =>
 (OP .len [v35] fun v36 =>
 (OP (.bin .sub) [v36, I 64] fun v37 =>
 (OP .mx [v37, I 0] fun v38 =>
 (OP (.slice 5 true false) [v35, v38] fun v39 =>
 (CALL ρ 73 [v39] 1 fun v40 =>
 (OP (.bin .geq) [v7, I 0] fun v41 =>
 (OP (.bin .neq) [v7, v7] fun v42 =>
 (ITE v42
 (ITE v41
 (OP (.rows 16) [I 12, I 0, I 0, v7, I 0, v17, I 0, I 0, I 0, v7, I 0, I 0, v28, I 0, .list [], .list []] fun v43 =>
 (Q [v8, v9, v26, v27, v30, v13, v28, v32, v40, v43, v28, I 0]))
 (OP (.rows 16) [I 13, I 0, I 0, v7, I 0, v17, I 0, I 0, I 0, I 0, I 0, I 0, v28, I 0, .list [], .list []] fun v43 =>
 (Q [v8, v9, v26, v27, v30, v13, v28, v32, v40, v43, v28, I 0])))
 (SUB 3 (fun R =>
 (OP .len [v30] fun v43 =>
 (LOOP 1 [I 0] fun N0 v44 =>
 (OP (.bin .lss) [v44, v43] fun v45 =>
 (ITE v45
 (OP (.idx 3) [v30, v44] fun v46 =>
 (SUB 1 (fun R =>
 (OP (.bin .eql) [v30.cellAt v46 0, v28] fun v47 =>
 (ITE v47
 (OP (.bin .eql) [v30.cellAt v46 1, v17] fun v48 =>
 (R [v48]))
 (R [bb false])))) fun v47 =>
 (ITE v47
 (OP (.bin .lss) [v44, I 0] fun v48 =>
 (ITE v48
 (OP (.un .not) [bb false] fun v49 =>
 (R [bb false, v49, v30]))
 (OP (.bin .add) [v44, I 1] fun v49 =>
 (CALL ρ 101 [v30, v44, v49] 1 fun v50 =>
 (OP (.un .not) [bb true] fun v51 =>
 (R [bb true, v51, v50]))))))
 (OP (.bin .add) [v44, I 1] fun v48 =>
 (N0 [v48])))))
 (OP (.bin .lss) [I (-1), I 0] fun v46 =>
 (ITE v46
 (OP (.un .not) [bb false] fun v47 =>
 (R [bb false, v47, v30]))
 (OP (.bin .add) [I (-1), I 1] fun v47 =>
 (CALL ρ 101 [v30, I (-1), v47] 1 fun v48 =>
 (OP (.un .not) [bb true] fun v49 =>
 (R [bb true, v49, v48]))))))))))) fun v43 v44 v45 =>
 (ITE v44
 (Q [v8, v9, v26, v27, v45, v13, v28, v32, v40, .list [], v28, I 0])
 (ITE v41
 (OP (.idx 16) [v27, v17] fun v46 =>
 (CALL ρ 102 [v27.cellAt v46 15, v6, I 3, I 0, I 0, I 0, v7, v28] 1 fun v47 =>
 (OP (.idx 16) [v27, v17] fun v48 =>
 (OP (.set 15) [v27, v48, v47] fun v49 =>
 (Q [v8, v9, v26, v49, v45, v13, v28, v32, v40, .list [], v28, I 0])))))
 (OP (.idx 16) [v27, v17] fun v46 =>
 (CALL ρ 102 [v27.cellAt v46 15, v6, I 4, I 0, I 0, I 0, I 0, v28] 1 fun v47 =>
 (OP (.idx 16) [v27, v17] fun v48 =>
 (OP (.set 15) [v27, v48, v47] fun v49 =>
 (Q [v8, v9, v26, v49, v45, v13, v28, v32, v40, .list [], v28, I 0]))))))))))))))))))
 (SUB 3 (fun R =>
 ((        (CALL ρ 75 [L (α := Int) []] 1 fun v34 =>
 (OP (.rows 1) [v7] fun v35 =>
 (OP (.app 1 8) [v34, v35] fun v36 =>
 (CALL ρ 75 [L (α := Int) []] 1 fun v37 =>
 (R [v37, v36, v35])))))) ∧
 (        ((         (OP (.rows 1) [v7] fun v34 =>
 (CALL ρ 75 [L (α := Int) []] 1 fun v35 =>
 (OP (.app 1 8) [v35, v34] fun v36 =>
 (CALL ρ 75 [L (α := Int) []] 1 fun v37 =>
 (R [v37, v36, v34])))))) ∧
 (         ((          (CALL ρ 75 [L (α := Int) []] 1 fun v34 =>
 (OP (.rows 1) [v7] fun v35 =>
 (OP (.app 1 8) [v34, v35] fun v36 =>
 (CALL ρ 75 [L (α := Int) []] 1 fun v37 =>
 (R [v37, v36, v35])))))) ∧
 (          (OP (.rows 1) [v7] fun v34 =>
 (CALL ρ 75 [L (α := Int) []] 1 fun v35 =>
 (OP (.app 1 8) [v35, v34] fun v36 =>
 (CALL ρ 75 [L (α := Int) []] 1 fun v37 =>
 (R [v37, v36, v34])))))))))))) fun v34 v35 v36 =>
 (CALL ρ 76 [v7, v8, v9, v26, v27, v30, v13, v28, v32, v23, v17] 1 fun v37 =>
 (OP .len [v37] fun v38 =>
 (LOOP 2 [I 0, v34] fun N0 v39 v40 =>
 (OP (.bin .lss) [v39, v38] fun v41 =>
 (ITE v41
 (OP (.idx 1) [v37, v39] fun v42 =>
 (CALL ρ 77 [v8, v9, v26, v27, v30, v13, v28, v32, v23, v37.cellAt v42 0] 1 fun v43 =>
 (ITE v43
 (CALL ρ 44 [v35, v37.cellAt v42 0] 1 fun v44 =>
 (OP (.un .not) [v44] fun v45 =>
 (ITE v45
 (CALL ρ 44 [v40, v37.cellAt v42 0] 1 fun v46 =>
 (OP (.un .not) [v46] fun v47 =>
 (ITE v47
 (OP (.rows 1) [v37.cellAt v42 0] fun v48 =>
 (OP (.app 1 8) [v40, v48] fun v49 =>
 (OP (.bin .add) [v39, I 1] fun v50 =>
 (N0 [v50, v49]))))
 (OP (.bin .add) [v39, I 1] fun v48 =>
 (N0 [v48, v40])))))
 (OP (.bin .add) [v39, I 1] fun v46 =>
 (N0 [v46, v40])))))
 (OP (.bin .add) [v39, I 1] fun v44 =>
 (N0 [v44, v40])))))
 (OP .len [v40] fun v42 =>
 (OP (.bin .sub) [v42, I 1] fun v43 =>
 (SUB 1 (fun R =>
 (OP (.bin .lss) [v43, I 0] fun v44 =>
 (ITE v44
 (R [bb true])
 (OP (.bin .geq) [I 0, I 16] fun v45 =>
 (R [v45]))))) fun v44 =>
 (ITE v44
 (OP (.bin .geq) [I (-1), I 0] fun v45 =>
 (OP (.bin .neq) [v7, v7] fun v46 =>
 (ITE v46
 (ITE v45
 (OP (.rows 16) [I 12, I 0, I 0, v7, I 0, v17, I 0, I 0, I 0, I (-1), I 0, I 0, v28, I 0, .list [], .list []] fun v47 =>
 (Q [v8, v9, v26, v27, v30, v13, v28, v32, v23, v47, v28, I 0]))
 (OP (.rows 16) [I 13, I 0, I 0, v7, I 0, v17, I 0, I 0, I 0, I 0, I 0, I 0, v28, I 0, .list [], .list []] fun v47 =>
 (Q [v8, v9, v26, v27, v30, v13, v28, v32, v23, v47, v28, I 0])))
 (SUB 3 (fun R =>
 (OP .len [v30] fun v47 =>
 (LOOP 1 [I 0] fun N0 v48 =>
 (OP (.bin .lss) [v48, v47] fun v49 =>
 (ITE v49
 (OP (.idx 3) [v30, v48] fun v50 =>
 (SUB 1 (fun R =>
 (OP (.bin .eql) [v30.cellAt v50 0, v28] fun v51 =>
 (ITE v51
 (OP (.bin .eql) [v30.cellAt v50 1, v17] fun v52 =>
 (R [v52]))
 (R [bb false])))) fun v51 =>
 (ITE v51
 (OP (.bin .lss) [v48, I 0] fun v52 =>
 (ITE v52
 (OP (.un .not) [bb false] fun v53 =>
 (R [bb false, v53, v30]))
 (OP (.bin .add) [v48, I 1] fun v53 =>
 (CALL ρ 101 [v30, v48, v53] 1 fun v54 =>
 (OP (.un .not) [bb true] fun v55 =>
 (R [bb true, v55, v54]))))))
 (OP (.bin .add) [v48, I 1] fun v52 =>
 (N0 [v52])))))
 (OP (.bin .lss) [I (-1), I 0] fun v50 =>
 (ITE v50
 (OP (.un .not) [bb false] fun v51 =>
 (R [bb false, v51, v30]))
 (OP (.bin .add) [I (-1), I 1] fun v51 =>
 (CALL ρ 101 [v30, I (-1), v51] 1 fun v52 =>
 (OP (.un .not) [bb true] fun v53 =>
 (R [bb true, v53, v52]))))))))))) fun v47 v48 v49 =>
 (ITE v48
 (Q [v8, v9, v26, v27, v49, v13, v28, v32, v23, .list [], v28, I 0])
 (ITE v45
 (OP (.idx 16) [v27, v17] fun v50 =>
 (CALL ρ 102 [v27.cellAt v50 15, v6, I 3, I 0, I 0, I 0, I (-1), v28] 1 fun v51 =>
 (OP (.idx 16) [v27, v17] fun v52 =>
 (OP (.set 15) [v27, v52, v51] fun v53 =>
 (Q [v8, v9, v26, v53, v49, v13, v28, v32, v23, .list [], v28, I 0])))))
 (OP (.idx 16) [v27, v17] fun v50 =>
 (CALL ρ 102 [v27.cellAt v50 15, v6, I 4, I 0, I 0, I 0, I 0, v28] 1 fun v51 =>
 (OP (.idx 16) [v27, v17] fun v52 =>
 (OP (.set 15) [v27, v52, v51] fun v53 =>
 (Q [v8, v9, v26, v53, v49, v13, v28, v32, v23, .list [], v28, I 0])))))))))))
 (OP (.idx 1) [v40, v43] fun v45 =>
 (OP (.bin .add) [I 0, I 1] fun v46 =>
 (OP (.slice 1 false true) [v40, v43] fun v47 =>
 (CALL ρ 75 [v47] 1 fun v48 =>
 (OP (.rows 16) [I 11, I 0, I 0, v40.cellAt v45 0, I 0, v17, I 0, I 0, I 0, v18, v7, v9, v28, v46, v35, v48] fun v49 =>
 (Q [v8, v9, v26, v27, v30, v13, v28, v32, v23, v49, v28, I 0]))))))))))))))))))))))))))))))
def S_law21_wakes (ρ : Fns) (Q : List PV → Prop) : Prop :=
 (CALL ρ 19 [] 7 fun v0 v1 v2 v3 v4 v5 v6 =>
 (SUB 3 (fun R =>
 ((    (OP (.repl 16 [(.int .i64 0), (.int .i64 0)]) [I 8] fun v7 =>
 ((     (OP (.repl 200 [(.bool false), (.bool false), (.int .i64 0), (.int .i64 0), (.int .i64 0), (.int .i64 0), (.int .i64 0), (.int .i64 0), .nil, .nil, (.int .i64 0), (.int .i64 0), (.int .i64 0), .nil, .nil, .nil]) [I 4] fun v8 =>
 (OP (.repl 24 [(.int .i64 0), (.int .i64 0), (.int .i64 0)]) [I 8] fun v9 =>
 (R [v9, v8, v7])))) ∧
 (     (OP (.repl 24 [(.int .i64 0), (.int .i64 0), (.int .i64 0)]) [I 8] fun v8 =>
 (OP (.repl 200 [(.bool false), (.bool false), (.int .i64 0), (.int .i64 0), (.int .i64 0), (.int .i64 0), (.int .i64 0), (.int .i64 0), .nil, .nil, (.int .i64 0), (.int .i64 0), (.int .i64 0), .nil, .nil, .nil]) [I 4] fun v9 =>
 (R [v8, v9, v7]))))))) ∧
 (    ((     (OP (.repl 200 [(.bool false), (.bool false), (.int .i64 0), (.int .i64 0), (.int .i64 0), (.int .i64 0), (.int .i64 0), (.int .i64 0), .nil, .nil, (.int .i64 0), (.int .i64 0), (.int .i64 0), .nil, .nil, .nil]) [I 4] fun v7 =>
 ((      (OP (.repl 16 [(.int .i64 0), (.int .i64 0)]) [I 8] fun v8 =>
 (OP (.repl 24 [(.int .i64 0), (.int .i64 0), (.int .i64 0)]) [I 8] fun v9 =>
 (R [v9, v7, v8])))) ∧
 (      (OP (.repl 24 [(.int .i64 0), (.int .i64 0), (.int .i64 0)]) [I 8] fun v8 =>
 (OP (.repl 16 [(.int .i64 0), (.int .i64 0)]) [I 8] fun v9 =>
 (R [v8, v7, v9]))))))) ∧
 (     (OP (.repl 24 [(.int .i64 0), (.int .i64 0), (.int .i64 0)]) [I 8] fun v7 =>
 ((      (OP (.repl 16 [(.int .i64 0), (.int .i64 0)]) [I 8] fun v8 =>
 (OP (.repl 200 [(.bool false), (.bool false), (.int .i64 0), (.int .i64 0), (.int .i64 0), (.int .i64 0), (.int .i64 0), (.int .i64 0), .nil, .nil, (.int .i64 0), (.int .i64 0), (.int .i64 0), .nil, .nil, .nil]) [I 4] fun v9 =>
 (R [v7, v9, v8])))) ∧
 (      (OP (.repl 200 [(.bool false), (.bool false), (.int .i64 0), (.int .i64 0), (.int .i64 0), (.int .i64 0), (.int .i64 0), (.int .i64 0), .nil, .nil, (.int .i64 0), (.int .i64 0), (.int .i64 0), .nil, .nil, .nil]) [I 4] fun v8 =>
 (OP (.repl 16 [(.int .i64 0), (.int .i64 0)]) [I 8] fun v9 =>
 (R [v7, v8, v9]))))))))))) fun v7 v8 v9 =>
 (SUB 1 (fun R =>
 (OP (.idx 16) [v8, I 2] fun v10 =>
 (OP (.set 0) [v8, v10, bb true] fun v11 =>
 (OP (.idx 16) [v11, I 2] fun v12 =>
 (OP (.set 1) [v11, v12, bb true] fun v13 =>
 (R [v13])))))) fun v10 =>
 (CALL ρ 10 [v0, v1, v2, v3, v4, v5, v6, I 3, bb true, I 1, v9, v10, L (α := Call) [], I 0, I 0, v7, L (α := Mark2) [], I 2, I 7] 12 fun v11 v12 v13 v14 v15 v16 v17 v18 v19 v20 v21 v22 =>
 (SUB 30 (fun R =>
 ((    (OP (.repl 16 [(.int .i64 0), (.int .i64 0)]) [I 8] fun v23 =>
 ((     (OP (.repl 200 [(.bool false), (.bool false), (.int .i64 0), (.int .i64 0), (.int .i64 0), (.int .i64 0), (.int .i64 0), (.int .i64 0), .nil, .nil, (.int .i64 0), (.int .i64 0), (.int .i64 0), .nil, .nil, .nil]) [I 4] fun v24 =>
 (OP (.repl 24 [(.int .i64 0), (.int .i64 0), (.int .i64 0)]) [I 8] fun v25 =>
 (CALL ρ 10 [v0, v1, v2, v3, v4, v5, v6, I 3, bb true, I 1, v23, v24, L (α := Call) [], I 0, I 0, v25, L (α := Mark2) [], I 2, I 7] 12 fun v26 v27 v28 v29 v30 v31 v32 v33 v34 v35 v36 v37 =>
 (R [v23, v24, v25, v26, v27, v28, v29, v30, v31, v32, v33, v34, v35, v36, v37, v35, v36, v37, v26, v27, v28, v29, v30, v31, v32, v33, v34, v23, v24, v25]))))) ∧
 (     (OP (.repl 24 [(.int .i64 0), (.int .i64 0), (.int .i64 0)]) [I 8] fun v24 =>
 (OP (.repl 200 [(.bool false), (.bool false), (.int .i64 0), (.int .i64 0), (.int .i64 0), (.int .i64 0), (.int .i64 0), (.int .i64 0), .nil, .nil, (.int .i64 0), (.int .i64 0), (.int .i64 0), .nil, .nil, .nil]) [I 4] fun v25 =>
 (CALL ρ 10 [v0, v1, v2, v3, v4, v5, v6, I 3, bb true, I 1, v23, v25, L (α := Call) [], I 0, I 0, v24, L (α := Mark2) [], I 2, I 7] 12 fun v26 v27 v28 v29 v30 v31 v32 v33 v34 v35 v36 v37 =>
 (R [v23, v25, v24, v26, v27, v28, v29, v30, v31, v32, v33, v34, v35, v36, v37, v35, v36, v37, v26, v27, v28, v29, v30, v31, v32, v33, v34, v23, v25, v24])))))))) ∧
 (    ((     (OP (.repl 200 [(.bool false), (.bool false), (.int .i64 0), (.int .i64 0), (.int .i64 0), (.int .i64 0), (.int .i64 0), (.int .i64 0), .nil, .nil, (.int .i64 0), (.int .i64 0), (.int .i64 0), .nil, .nil, .nil]) [I 4] fun v23 =>
 ((      (OP (.repl 16 [(.int .i64 0), (.int .i64 0)]) [I 8] fun v24 =>
 (OP (.repl 24 [(.int .i64 0), (.int .i64 0), (.int .i64 0)]) [I 8] fun v25 =>
 (CALL ρ 10 [v0, v1, v2, v3, v4, v5, v6, I 3, bb true, I 1, v24, v23, L (α := Call) [], I 0, I 0, v25, L (α := Mark2) [], I 2, I 7] 12 fun v26 v27 v28 v29 v30 v31 v32 v33 v34 v35 v36 v37 =>
 (R [v24, v23, v25, v26, v27, v28, v29, v30, v31, v32, v33, v34, v35, v36, v37, v35, v36, v37, v26, v27, v28, v29, v30, v31, v32, v33, v34, v24, v23, v25]))))) ∧
 (      (OP (.repl 24 [(.int .i64 0), (.int .i64 0), (.int .i64 0)]) [I 8] fun v24 =>
 (OP (.repl 16 [(.int .i64 0), (.int .i64 0)]) [I 8] fun v25 =>
 (CALL ρ 10 [v0, v1, v2, v3, v4, v5, v6, I 3, bb true, I 1, v25, v23, L (α := Call) [], I 0, I 0, v24, L (α := Mark2) [], I 2, I 7] 12 fun v26 v27 v28 v29 v30 v31 v32 v33 v34 v35 v36 v37 =>
 (R [v25, v23, v24, v26, v27, v28, v29, v30, v31, v32, v33, v34, v35, v36, v37, v35, v36, v37, v26, v27, v28, v29, v30, v31, v32, v33, v34, v25, v23, v24])))))))) ∧
 (     (OP (.repl 24 [(.int .i64 0), (.int .i64 0), (.int .i64 0)]) [I 8] fun v23 =>
 ((      (OP (.repl 16 [(.int .i64 0), (.int .i64 0)]) [I 8] fun v24 =>
 (OP (.repl 200 [(.bool false), (.bool false), (.int .i64 0), (.int .i64 0), (.int .i64 0), (.int .i64 0), (.int .i64 0), (.int .i64 0), .nil, .nil, (.int .i64 0), (.int .i64 0), (.int .i64 0), .nil, .nil, .nil]) [I 4] fun v25 =>
 (CALL ρ 10 [v0, v1, v2, v3, v4, v5, v6, I 3, bb true, I 1, v24, v25, L (α := Call) [], I 0, I 0, v23, L (α := Mark2) [], I 2, I 7] 12 fun v26 v27 v28 v29 v30 v31 v32 v33 v34 v35 v36 v37 =>
 (R [v24, v25, v23, v26, v27, v28, v29, v30, v31, v32, v33, v34, v35, v36, v37, v35, v36, v37, v26, v27, v28, v29, v30, v31, v32, v33, v34, v24, v25, v23]))))) ∧
 (      (OP (.repl 200 [(.bool false), (.bool false), (.int .i64 0), (.int .i64 0), (.int .i64 0), (.int .i64 0), (.int .i64 0), (.int .i64 0), .nil, .nil, (.int .i64 0), (.int .i64 0), (.int .i64 0), .nil, .nil, .nil]) [I 4] fun v24 =>
 (OP (.repl 16 [(.int .i64 0), (.int .i64 0)]) [I 8] fun v25 =>
 (CALL ρ 10 [v0, v1, v2, v3, v4, v5, v6, I 3, bb true, I 1, v25, v24, L (α := Call) [], I 0, I 0, v23, L (α := Mark2) [], I 2, I 7] 12 fun v26 v27 v28 v29 v30 v31 v32 v33 v34 v35 v36 v37 =>
 (R [v25, v24, v23, v26, v27, v28, v29, v30, v31, v32, v33, v34, v35, v36, v37, v35, v36, v37, v26, v27, v28, v29, v30, v31, v32, v33, v34, v25, v24, v23])))))))))))) fun v23 v24 v25 v26 v27 v28 v29 v30 v31 v32 v33 v34 v35 v36 v37 v38 v39 v40 v41 v42 v43 v44 v45 v46 v47 v48 v49 v50 v51 v52 =>
 (OP (.bin .eql) [v22, I 0] fun v53 =>
 (ITE v53
 (OP (.bin .eql) [v21, I 1] fun v54 =>
 (ITE v54
 (OP .len [v20] fun v55 =>
 (OP (.bin .eql) [v55, I 0] fun v56 =>
 (ITE v56
 (OP .len [v14] fun v57 =>
 (OP (.bin .eql) [v57, I 4] fun v58 =>
 (ITE v58
 (OP (.idx 16) [v14, I 2] fun v59 =>
 (OP .len [v14.cellAt v59 15] fun v60 =>
 (OP (.bin .eql) [v60, I 1] fun v61 =>
 (ITE v61
 (OP (.idx 16) [v14, I 2] fun v62 =>
 (OP (.idx 6) [v14.cellAt v62 15, I 0] fun v63 =>
 (OP (.eqs false [true, true, true, true, true, true]) [(v14.cellAt v62 15).cellAt v63 0, (v14.cellAt v62 15).cellAt v63 1, (v14.cellAt v62 15).cellAt v63 2, (v14.cellAt v62 15).cellAt v63 3, (v14.cellAt v62 15).cellAt v63 4, (v14.cellAt v62 15).cellAt v63 5, I 3, I 0, I 0, I 0, I 3, I 1] fun v64 =>
 (ITE v64
 (OP .len [v19] fun v65 =>
 (OP (.bin .eql) [v65, I 1] fun v66 =>
 (ITE v66
 (OP (.bin .eql) [v40, I 0] fun v67 =>
 (ITE v67
 (OP .len [v44] fun v68 =>
 (OP (.bin .eql) [v68, I 4] fun v69 =>
 (ITE v69
 (OP (.idx 16) [v44, I 2] fun v70 =>
 (OP .len [v44.cellAt v70 15] fun v71 =>
 (OP (.bin .eql) [v71, I 1] fun v72 =>
 (ITE v72
 (OP (.idx 16) [v44, I 2] fun v73 =>
 (OP (.idx 6) [v44.cellAt v73 15, I 0] fun v74 =>
 (OP (.bin .eql) [(v44.cellAt v73 15).cellAt v74 0, I 4] fun v75 =>
 (ITE v75
 (CALL ρ 12 [v0, v1, v2, v3, v4, v5, v6, I 3, bb true, I 1, v9, v10, L (α := Call) [], I 0, I 0, v7, L (α := Mark2) []] 1 fun v76 =>
 (OP (.bin .eql) [v76, I 0] fun v77 =>
 (ITE v77
 (CALL ρ 12 [v0, v1, v2, v3, v4, v5, v6, I 3, bb false, I 0, L (α := Peer) [], L (α := Topic) [], L (α := Call) [], I 0, I 0, L (α := Mark) [], L (α := Mark2) []] 1 fun v78 =>
 (OP (.bin .eql) [v78, I 9] fun v79 =>
 (Q [v79])))
 (Q [bb false]))))
 (Q [bb false])))))
 (Q [bb false])))))
 (Q [bb false]))))
 (Q [bb false])))
 (Q [bb false]))))
 (Q [bb false])))))
 (Q [bb false])))))
 (Q [bb false]))))
 (Q [bb false]))))
 (Q [bb false])))
 (Q [bb false]))))))))
def S_msg_ends (ρ : Fns) (v0 v1 v2 v3 v4 v5 v6 v7 v8 v9 v10 v11 v12 v13 v14 v15 : PV) (Q : List PV → Prop) : Prop :=
 (CALL ρ 135 [v1] 1 fun v16 =>
 (ITE v16
 (CALL ρ 135 [v3] 1 fun v17 =>
 (ITE v17
 (OP (.bin .neq) [v1, v3] fun v18 =>
 (ITE v18
 (CALL ρ 80 [v2] 1 fun v19 =>
 (Q [v19]))
 (Q [bb false])))
 (Q [bb false])))
 (Q [bb false])))
def S_msg_Unlike (ρ : Fns) (v0 : PV) (Q : List PV → Prop) : Prop :=
 (OP .len [v0] fun v1 =>
 (LOOP 1 [I 0] fun N0 v2 =>
 (OP (.bin .lss) [v2, v1] fun v3 =>
 (ITE v3
 (OP (.idx 1) [v0, v2] fun v4 =>
 (OP (.slice 1 false true) [v0, v2] fun v5 =>
 (CALL ρ 44 [v5, v0.cellAt v4 0] 1 fun v6 =>
 (ITE v6
 (Q [bb false])
 (OP (.bin .add) [v2, I 1] fun v7 =>
 (N0 [v7]))))))
 (Q [bb true])))))
def S_msg_way (ρ : Fns) (v0 : PV) (Q : List PV → Prop) : Prop :=
 (OP .len [v0] fun v1 =>
 (OP (.bin .leq) [v1, I 8] fun v2 =>
 (ITE v2
 (CALL ρ 104 [v0] 1 fun v3 =>
 (ITE v3
 (CALL ρ 138 [v0] 1 fun v4 =>
 (Q [v4]))
 (Q [bb false])))
 (Q [bb false]))))
def S_msg_place (ρ : Fns) (v0 v1 v2 v3 v4 v5 v6 v7 v8 v9 v10 v11 v12 v13 v14 v15 : PV) (Q : List PV → Prop) : Prop :=
 (CALL ρ 68 [v6, I 1, I 1073741824] 1 fun v16 =>
 (ITE v16
 (CALL ρ 80 [v7] 1 fun v17 =>
 (Q [v17]))
 (Q [bb false])))
def S_msg_whose (ρ : Fns) (v0 v1 v2 v3 v4 v5 v6 v7 v8 v9 v10 v11 v12 v13 v14 v15 : PV) (Q : List PV → Prop) : Prop :=
 (CALL ρ 135 [v10] 1 fun v16 =>
 (ITE v16
 (CALL ρ 80 [v11] 1 fun v17 =>
 (ITE v17
 (CALL ρ 35 [v9] 1 fun v18 =>
 (ITE v18
 (CALL ρ 68 [v13, I 0, I 16] 1 fun v19 =>
 (Q [v19]))
 (Q [bb false])))
 (Q [bb false])))
 (Q [bb false])))
def S_slices_Concat_int_int (ρ : Fns) (v0 : PV) (Q : List PV → Prop) : Prop :=
 (OP .len [v0] fun v1 =>
 (LOOP 2 [I 0, I 0] fun N0 v2 v3 =>
 (OP (.bin .lss) [v3, v1] fun v4 =>
 (ITE v4
 (OP (.idx 1) [v0, v3] fun v5 =>
 (OP .len [v0.cellAt v5 0] fun v6 =>
 (OP (.bin .add) [v2, v6] fun v7 =>
 (OP (.bin .lss) [v7, I 0] fun v8 =>
 (ITE v8
 False
 (OP (.bin .add) [v3, I 1] fun v9 =>
 (N0 [v7, v9])))))))
 (CALL ρ 94 [L (α := Int) [], v2] 1 fun v5 =>
 (OP .len [v0] fun v6 =>
 (LOOP 2 [I 0, v5] fun N1 v7 v8 =>
 (OP (.bin .lss) [v7, v6] fun v9 =>
 (ITE v9
 (OP (.idx 1) [v0, v7] fun v10 =>
 (OP (.app 1 8) [v8, v0.cellAt v10 0] fun v11 =>
 (OP (.bin .add) [v7, I 1] fun v12 =>
 (N1 [v12, v11]))))
 (Q [v8]))))))))))
def S_msg_bare (ρ : Fns) (v0 v1 v2 v3 v4 v5 v6 v7 v8 v9 v10 v11 v12 v13 v14 v15 : PV) (Q : List PV → Prop) : Prop :=
 (OP (.bin .eql) [v0, I 1] fun v16 =>
 (SUB 1 (fun R =>
 (ITE v16
 (R [v16])
 (OP (.bin .eql) [v0, I 5] fun v17 =>
 (ITE v17
 (R [v17])
 (OP (.bin .eql) [v0, I 6] fun v18 =>
 (R [v18])))))) fun v17 =>
 (ITE v17
 (Q [v0, v1, v2, v3, v4, v5, v6, v7, v8, v9, v10, v11, v12, v13, v14, v15, bb true])
 (OP (.bin .eql) [v0, I 2] fun v18 =>
 (ITE v18
 (CALL ρ 68 [v6, I 0, I 1073741824] 1 fun v19 =>
 (Q [v0, v1, v2, v3, v4, v5, I 0, v7, v8, v9, v10, v11, v12, v13, v14, v15, v19]))
 (OP (.bin .eql) [v0, I 3] fun v19 =>
 (ITE v19
 (CALL ρ 68 [v6, I 0, I 1073741824] 1 fun v20 =>
 (ITE v20
 (CALL ρ 80 [v7] 1 fun v21 =>
 (ITE v21
 (CALL ρ 68 [v8, I 0, I 1073741824] 1 fun v22 =>
 (ITE v22
 (OP .len [v14] fun v23 =>
 (OP (.bin .gtr) [v23, I 0] fun v24 =>
 (ITE v24
 (CALL ρ 134 [v14] 1 fun v25 =>
 (ITE v25
 (OP (.idx 1) [v14, I 0] fun v26 =>
 (OP (.bin .eql) [v14.cellAt v26 0, v1] fun v27 =>
 (Q [v0, v1, v2, v3, v4, v5, I 0, I 0, I 0, v9, v10, v11, v12, v13, .list [], v15, v27])))
 (Q [v0, v1, v2, v3, v4, v5, I 0, I 0, I 0, v9, v10, v11, v12, v13, .list [], v15, bb false])))
 (Q [v0, v1, v2, v3, v4, v5, I 0, I 0, I 0, v9, v10, v11, v12, v13, .list [], v15, bb false]))))
 (Q [v0, v1, v2, v3, v4, v5, I 0, I 0, I 0, v9, v10, v11, v12, v13, .list [], v15, bb false])))
 (Q [v0, v1, v2, v3, v4, v5, I 0, I 0, I 0, v9, v10, v11, v12, v13, .list [], v15, bb false])))
 (Q [v0, v1, v2, v3, v4, v5, I 0, I 0, I 0, v9, v10, v11, v12, v13, .list [], v15, bb false])))
 (OP (.bin .eql) [v0, I 4] fun v20 =>
 (ITE v20
 (CALL ρ 135 [v10] 1 fun v21 =>
 (ITE v21
 (OP (.bin .neq) [v10, v1] fun v22 =>
 (ITE v22
 (OP (.bin .neq) [v10, v3] fun v23 =>
 (Q [v0, v1, v2, v3, v4, v5, v6, v7, v8, v9, I 0, v11, v12, v13, v14, v15, v23]))
 (Q [v0, v1, v2, v3, v4, v5, v6, v7, v8, v9, I 0, v11, v12, v13, v14, v15, bb false])))
 (Q [v0, v1, v2, v3, v4, v5, v6, v7, v8, v9, I 0, v11, v12, v13, v14, v15, bb false])))
 (OP (.bin .eql) [v0, I 7] fun v21 =>
 (ITE v21
 (CALL ρ 136 [v0, v1, v2, v3, v4, v5, v6, v7, v8, v9, v10, v11, v12, v13, v14, v15] 1 fun v22 =>
 (ITE v22
 (CALL ρ 35 [v9] 1 fun v23 =>
 (Q [v0, v1, v2, v3, v4, v5, I 0, I 0, v8, I 0, v10, v11, v12, v13, v14, v15, v23]))
 (Q [v0, v1, v2, v3, v4, v5, I 0, I 0, v8, I 0, v10, v11, v12, v13, v14, v15, bb false])))
 (OP (.bin .eql) [v0, I 8] fun v22 =>
 (ITE v22
 (CALL ρ 136 [v0, v1, v2, v3, v4, v5, v6, v7, v8, v9, v10, v11, v12, v13, v14, v15] 1 fun v23 =>
 (Q [v0, v1, v2, v3, v4, v5, I 0, I 0, v8, v9, v10, v11, v12, v13, v14, v15, v23]))
 (OP (.bin .eql) [v0, I 9] fun v23 =>
 (ITE v23
 (CALL ρ 136 [v0, v1, v2, v3, v4, v5, v6, v7, v8, v9, v10, v11, v12, v13, v14, v15] 1 fun v24 =>
 (ITE v24
 (CALL ρ 68 [v8, v7, I 1073741824] 1 fun v25 =>
 (Q [v0, v1, v2, v3, v4, v5, I 0, I 0, I 0, v9, v10, v11, v12, v13, v14, v15, v25]))
 (Q [v0, v1, v2, v3, v4, v5, I 0, I 0, I 0, v9, v10, v11, v12, v13, v14, v15, bb false])))
 (OP (.bin .eql) [v0, I 10] fun v24 =>
 (ITE v24
 (CALL ρ 137 [v0, v1, v2, v3, v4, v5, v6, v7, v8, v9, v10, v11, v12, v13, v14, v15] 1 fun v25 =>
 (ITE v25
 (CALL ρ 80 [v12] 1 fun v26 =>
 (Q [v0, v1, v2, v3, v4, v5, v6, v7, v8, I 0, I 0, I 0, I 0, I 0, v14, v15, v26]))
 (Q [v0, v1, v2, v3, v4, v5, v6, v7, v8, I 0, I 0, I 0, I 0, I 0, v14, v15, bb false])))
 (OP (.bin .eql) [v0, I 11] fun v25 =>
 (ITE v25
 (CALL ρ 137 [v0, v1, v2, v3, v4, v5, v6, v7, v8, v9, v10, v11, v12, v13, v14, v15] 1 fun v26 =>
 (ITE v26
 (CALL ρ 68 [v12, I 1, I 40] 1 fun v27 =>
 (ITE v27
 (CALL ρ 134 [v14] 1 fun v28 =>
 (ITE v28
 (CALL ρ 134 [v15] 1 fun v29 =>
 (ITE v29
 (OP (.rows 1) [v14, v15] fun v30 =>
 (CALL ρ 43 [v30] 1 fun v31 =>
 (CALL ρ 138 [v31] 1 fun v32 =>
 (Q [v0, v1, v2, v3, v4, v5, v6, v7, v8, I 0, I 0, I 0, I 0, I 0, .list [], .list [], v32]))))
 (Q [v0, v1, v2, v3, v4, v5, v6, v7, v8, I 0, I 0, I 0, I 0, I 0, .list [], .list [], bb false])))
 (Q [v0, v1, v2, v3, v4, v5, v6, v7, v8, I 0, I 0, I 0, I 0, I 0, .list [], .list [], bb false])))
 (Q [v0, v1, v2, v3, v4, v5, v6, v7, v8, I 0, I 0, I 0, I 0, I 0, .list [], .list [], bb false])))
 (Q [v0, v1, v2, v3, v4, v5, v6, v7, v8, I 0, I 0, I 0, I 0, I 0, .list [], .list [], bb false])))
 (OP (.bin .eql) [v0, I 12] fun v26 =>
 (ITE v26
 (CALL ρ 68 [v12, I 1, I 40] 1 fun v27 =>
 (ITE v27
 (CALL ρ 135 [v9] 1 fun v28 =>
 (Q [v0, v1, v2, v3, v4, v5, v6, v7, v8, I 0, v10, v11, I 0, v13, v14, v15, v28]))
 (Q [v0, v1, v2, v3, v4, v5, v6, v7, v8, I 0, v10, v11, I 0, v13, v14, v15, bb false])))
 (OP (.bin .eql) [v0, I 13] fun v27 =>
 (ITE v27
 (CALL ρ 68 [v12, I 1, I 40] 1 fun v28 =>
 (Q [v0, v1, v2, v3, v4, v5, v6, v7, v8, v9, v10, v11, I 0, v13, v14, v15, v28]))
 (Q [v0, v1, v2, v3, v4, v5, v6, v7, v8, v9, v10, v11, v12, v13, v14, v15, bb false]))))))))))))))))))))))))
def S_msg_Check (ρ : Fns) (v0 v1 v2 v3 v4 v5 v6 v7 v8 v9 v10 v11 v12 v13 v14 v15 : PV) (Q : List PV → Prop) : Prop :=
 (CALL ρ 90 [v0, v1, v2, v3, v4, v5, v6, v7, v8, v9, v10, v11, v12, v13, v14, v15] 17 fun v16 v17 v18 v19 v20 v21 v22 v23 v24 v25 v26 v27 v28 v29 v30 v31 v32 =>
 (CALL ρ 91 [v0, v1, v2, v3, v4, v5, v6, v7, v8, v9, v10, v11, v12, v13, v14, v15] 1 fun v33 =>
 (OP (.bin .eql) [v0, I 1] fun v34 =>
 (SUB 1 (fun R =>
 (ITE v34
 (ITE v33
 (OP (.bin .eql) [v4, I 0] fun v35 =>
 (ITE v35
 (OP (.bin .eql) [v5, I 0] fun v36 =>
 (R [v36]))
 (R [bb false])))
 (R [bb false]))
 (ITE v33
 (CALL ρ 80 [v4] 1 fun v35 =>
 (ITE v35
 (CALL ρ 68 [v5, I 0, I 3] 1 fun v36 =>
 (R [v36]))
 (R [bb false])))
 (R [bb false])))) fun v35 =>
 (SUB 1 (fun R =>
 (OP (.bin .neq) [v22, I 0] fun v36 =>
 (ITE v36
 (R [bb true])
 (OP (.bin .neq) [v23, I 0] fun v37 =>
 (ITE v37
 (R [bb true])
 (OP (.bin .neq) [v24, I 0] fun v38 =>
 (ITE v38
 (R [bb true])
 (OP (.bin .neq) [v25, I 0] fun v39 =>
 (ITE v39
 (R [bb true])
 (OP (.bin .neq) [v26, I 0] fun v40 =>
 (ITE v40
 (R [bb true])
 (OP (.bin .neq) [v27, I 0] fun v41 =>
 (ITE v41
 (R [bb true])
 (OP (.bin .neq) [v28, I 0] fun v42 =>
 (ITE v42
 (R [bb true])
 (OP (.bin .neq) [v29, I 0] fun v43 =>
 (R [v43]))))))))))))))))) fun v36 =>
 (OP (.un .not) [v32] fun v37 =>
 (ITE v37
 (Q [I 5])
 (OP (.un .not) [v35] fun v38 =>
 (ITE v38
 (Q [I 5])
 (ITE v36
 (Q [I 5])
 (OP .len [v30] fun v39 =>
 (OP (.bin .gtr) [v39, I 0] fun v40 =>
 (ITE v40
 (Q [I 5])
 (OP .len [v31] fun v41 =>
 (OP (.bin .gtr) [v41, I 0] fun v42 =>
 (ITE v42
 (Q [I 5])
 (Q [I 0])))))))))))))))))
def S_law06_Heavy (ρ : Fns) (v0 v1 v2 v3 v4 v5 v6 v7 v8 v9 v10 v11 v12 v13 v14 v15 : PV) (Q : List PV → Prop) : Prop :=
 (OP .len [v14] fun v16 =>
 (OP (.bin .gtr) [v16, I 30] fun v17 =>
 (ITE v17
 (Q [bb true])
 (OP .len [v15] fun v18 =>
 (OP (.bin .gtr) [v18, I 30] fun v19 =>
 (Q [v19]))))))
def S_cast_whole (ρ : Fns) (v0 v1 v2 v3 v4 v5 v6 v7 : PV) (Q : List PV → Prop) : Prop :=
 (OP .len [v7] fun v8 =>
 (LOOP 1 [I 0] fun N0 v9 =>
 (OP (.bin .lss) [v9, v8] fun v10 =>
 (ITE v10
 (OP (.idx 1) [v7, v9] fun v11 =>
 (OP (.bin .sub) [v0, I 1] fun v12 =>
 (CALL ρ 34 [v7.cellAt v11 0, I 0, v12] 1 fun v13 =>
 (OP (.un .not) [v13] fun v14 =>
 (ITE v14
 (OP (.bin .geq) [v9, I 0] fun v15 =>
 (OP (.un .not) [v15] fun v16 =>
 (Q [v16])))
 (OP (.bin .add) [v9, I 1] fun v15 =>
 (N0 [v15])))))))
 (OP (.bin .geq) [I (-1), I 0] fun v11 =>
 (OP (.un .not) [v11] fun v12 =>
 (Q [v12])))))))
def S_cast_Visit (ρ : Fns) (v0 v1 v2 v3 v4 v5 v6 v7 v8 v9 v10 v11 v12 v13 v14 v15 v16 v17 v18 v19 v20 v21 v22 v23 v24 v25 v26 v27 v28 v29 v30 v31 v32 : PV) (Q : List PV → Prop) : Prop :=
 (CALL ρ 12 [v0, v1, v2, v3, v4, v5, v6, v7, v8, v9, v10, v11, v12, v13, v14, v15, v16] 1 fun v33 =>
 (OP (.bin .neq) [v33, I 0] fun v34 =>
 (ITE v34
 (Q [bb false, I 0, .list [], .list [], .list [], I 0, I 0, .list [], .list [], .list [], v33])
 (SUB 1 (fun R =>
 (CALL ρ 41 [v17, v18, v19, v20, v21, v22, v23, v24, v25, v26, v27, v28, v29, v30, v31, v32] 1 fun v35 =>
 (OP (.bin .neq) [v35, I 0] fun v36 =>
 (ITE v36
 (R [bb true])
 (OP (.bin .neq) [v17, I 11] fun v37 =>
 (ITE v37
 (R [bb true])
 (OP (.bin .geq) [v22, v1] fun v38 =>
 (ITE v38
 (R [bb true])
 (OP (.rows 1) [v27] fun v39 =>
 (OP (.rows 1) [v39, v31, v32] fun v40 =>
 (CALL ρ 43 [v40] 1 fun v41 =>
 (CALL ρ 42 [v0, v1, v2, v3, v4, v5, v6, v41] 1 fun v42 =>
 (OP (.un .not) [v42] fun v43 =>
 (R [v43])))))))))))))) fun v35 =>
 (ITE v35
 (Q [bb false, I 0, .list [], .list [], .list [], I 0, I 0, .list [], .list [], .list [], I 1])
 (SUB 5 (fun R =>
 (OP .len [v11] fun v36 =>
 (LOOP 2 [I 0, .list []] fun N0 v37 v38 =>
 (OP (.bin .lss) [v37, v36] fun v39 =>
 (ITE v39
 (OP (.idx 16) [v11, v37] fun v40 =>
 (CALL ρ 69 [v11.cellAt v40 0, v11.cellAt v40 1, v11.cellAt v40 2, v11.cellAt v40 3, v11.cellAt v40 4, v11.cellAt v40 5, v11.cellAt v40 6, v11.cellAt v40 7, v11.cellAt v40 8, v11.cellAt v40 9, v11.cellAt v40 10, v11.cellAt v40 11, v11.cellAt v40 12, v11.cellAt v40 13, v11.cellAt v40 14, v11.cellAt v40 15] 16 fun v41 v42 v43 v44 v45 v46 v47 v48 v49 v50 v51 v52 v53 v54 v55 v56 =>
 (OP (.rows 16) [v41, v42, v43, v44, v45, v46, v47, v48, v49, v50, v51, v52, v53, v54, v55, v56] fun v57 =>
 (OP (.app 16 200) [v38, v57] fun v58 =>
 (OP (.bin .add) [v37, I 1] fun v59 =>
 (N0 [v59, v58]))))))
 (CALL ρ 70 [v10] 1 fun v40 =>
 (CALL ρ 71 [v12] 1 fun v41 =>
 (CALL ρ 72 [v15] 1 fun v42 =>
 (CALL ρ 73 [v16] 1 fun v43 =>
 (R [v43, v42, v41, v40, v38])))))))))) fun v36 v37 v38 v39 v40 =>
 (SUB 2 (fun R =>
 (CALL ρ 44 [v31, v7] 1 fun v41 =>
 (ITE v41
 (R [bb true, v37])
 (OP (.idx 3) [v37, v27] fun v42 =>
 (OP (.bin .gtr) [v37.cellAt v42 0, v28] fun v43 =>
 (ITE v43
 (OP (.un .not) [bb false] fun v44 =>
 (R [v44, v37]))
 (OP (.bin .lss) [v37.cellAt v42 0, v28] fun v44 =>
 (SUB 1 (fun R =>
 (ITE v44
 (OP (.set 0) [v37, v42, v28] fun v45 =>
 (OP (.set 1) [v45, v42, I 0] fun v46 =>
 (OP (.set 2) [v46, v42, I 0] fun v47 =>
 (R [v47]))))
 (R [v37]))) fun v45 =>
 (OP (.bin .shr) [v45.cellAt v42 2, v29] fun v46 =>
 (OP (.bin .and) [v46, I 1] fun v47 =>
 (OP (.bin .eql) [v47, I 1] fun v48 =>
 (ITE v48
 (ITE v41
 (R [bb true, v45])
 (OP (.un .not) [bb false] fun v49 =>
 (R [v49, v45])))
 (OP (.bin .shl) [I 1, v29] fun v49 =>
 (OP (.bin .or) [v45.cellAt v42 2, v49] fun v50 =>
 (OP (.set 2) [v45, v42, v50] fun v51 =>
 (ITE v41
 (R [bb true, v51])
 (OP (.un .not) [bb true] fun v52 =>
 (R [v52, v51])))))))))))))))))) fun v41 v42 =>
 (ITE v41
 (OP .len [v11] fun v43 =>
 (LOOP 2 [I 0, .list []] fun N0 v44 v45 =>
 (OP (.bin .lss) [v44, v43] fun v46 =>
 (ITE v46
 (OP (.idx 16) [v11, v44] fun v47 =>
 (CALL ρ 69 [v11.cellAt v47 0, v11.cellAt v47 1, v11.cellAt v47 2, v11.cellAt v47 3, v11.cellAt v47 4, v11.cellAt v47 5, v11.cellAt v47 6, v11.cellAt v47 7, v11.cellAt v47 8, v11.cellAt v47 9, v11.cellAt v47 10, v11.cellAt v47 11, v11.cellAt v47 12, v11.cellAt v47 13, v11.cellAt v47 14, v11.cellAt v47 15] 16 fun v48 v49 v50 v51 v52 v53 v54 v55 v56 v57 v58 v59 v60 v61 v62 v63 =>
 (OP (.rows 16) [v48, v49, v50, v51, v52, v53, v54, v55, v56, v57, v58, v59, v60, v61, v62, v63] fun v64 =>
 (OP (.app 16 200) [v45, v64] fun v65 =>
 (OP (.bin .add) [v44, I 1] fun v66 =>
 (N0 [v66, v65]))))))
 (CALL ρ 70 [v10] 1 fun v47 =>
 (CALL ρ 71 [v12] 1 fun v48 =>
 (CALL ρ 72 [v15] 1 fun v49 =>
 (CALL ρ 73 [v16] 1 fun v50 =>
 (Q [v8, v9, v47, v45, v48, v13, v14, v49, v50, .list [], I 0])))))))))
 (OP (.idx 16) [v40, v22] fun v43 =>
 (ITE (v40.cellAt v43 1)
 (OP (.rows 5) [v27, v28, v29, v22, v26] fun v44 =>
 (OP (.app 5 40) [v36, v44] fun v45 =>
 (OP .len [v45] fun v46 =>
 (OP (.bin .sub) [v46, I 64] fun v47 =>
 (OP .mx [v47, I 0] fun v48 =>
 (OP (.slice 5 true false) [v45, v48] fun v49 =>
 (CALL ρ 73 [v49] 1 fun v50 =>
 (OP (.bin .geq) [v7, I 0] fun v51 =>
 (OP (.bin .neq) [v27, v7] fun v52 =>
 (ITE v52
 (ITE v51
 (OP (.rows 16) [I 12, I 0, I 0, v27, I 0, v22, I 0, I 0, I 0, v7, I 0, I 0, v29, I 0, .list [], .list []] fun v53 =>
 (Q [v8, v9, v39, v40, v38, v13, v14, v42, v50, v53, I 0]))
 (OP (.rows 16) [I 13, I 0, I 0, v27, I 0, v22, I 0, I 0, I 0, I 0, I 0, I 0, v29, I 0, .list [], .list []] fun v53 =>
 (Q [v8, v9, v39, v40, v38, v13, v14, v42, v50, v53, I 0])))
 (SUB 3 (fun R =>
 (OP .len [v38] fun v53 =>
 (LOOP 1 [I 0] fun N0 v54 =>
 (OP (.bin .lss) [v54, v53] fun v55 =>
 (ITE v55
 (OP (.idx 3) [v38, v54] fun v56 =>
 (SUB 1 (fun R =>
 (OP (.bin .eql) [v38.cellAt v56 0, v29] fun v57 =>
 (ITE v57
 (OP (.bin .eql) [v38.cellAt v56 1, v22] fun v58 =>
 (R [v58]))
 (R [bb false])))) fun v57 =>
 (ITE v57
 (OP (.bin .lss) [v54, I 0] fun v58 =>
 (ITE v58
 (OP (.un .not) [bb false] fun v59 =>
 (R [bb false, v59, v38]))
 (OP (.bin .add) [v54, I 1] fun v59 =>
 (CALL ρ 101 [v38, v54, v59] 1 fun v60 =>
 (OP (.un .not) [bb true] fun v61 =>
 (R [bb true, v61, v60]))))))
 (OP (.bin .add) [v54, I 1] fun v58 =>
 (N0 [v58])))))
 (OP (.bin .lss) [I (-1), I 0] fun v56 =>
 (ITE v56
 (OP (.un .not) [bb false] fun v57 =>
 (R [bb false, v57, v38]))
 (OP (.bin .add) [I (-1), I 1] fun v57 =>
 (CALL ρ 101 [v38, I (-1), v57] 1 fun v58 =>
 (OP (.un .not) [bb true] fun v59 =>
 (R [bb true, v59, v58]))))))))))) fun v53 v54 v55 =>
 (ITE v54
 (Q [v8, v9, v39, v40, v55, v13, v14, v42, v50, .list [], I 0])
 (ITE v51
 (OP (.idx 16) [v40, v22] fun v56 =>
 (CALL ρ 102 [v40.cellAt v56 15, v6, I 3, I 0, I 0, I 0, v7, v29] 1 fun v57 =>
 (OP (.idx 16) [v40, v22] fun v58 =>
 (OP (.set 15) [v40, v58, v57] fun v59 =>
 (Q [v8, v9, v39, v59, v55, v13, v14, v42, v50, .list [], I 0])))))
 (OP (.idx 16) [v40, v22] fun v56 =>
 (CALL ρ 102 [v40.cellAt v56 15, v6, I 4, I 0, I 0, I 0, I 0, v29] 1 fun v57 =>
 (OP (.idx 16) [v40, v22] fun v58 =>
 (OP (.set 15) [v40, v58, v57] fun v59 =>
 (Q [v8, v9, v39, v59, v55, v13, v14, v42, v50, .list [], I 0]))))))))))))))))))
 (SUB 3 (fun R =>
 ((        (CALL ρ 75 [v31] 1 fun v44 =>
 (OP (.rows 1) [v7] fun v45 =>
 (OP (.app 1 8) [v44, v45] fun v46 =>
 (CALL ρ 75 [v32] 1 fun v47 =>
 (R [v47, v46, v45])))))) ∧
 (        ((         (OP (.rows 1) [v7] fun v44 =>
 (CALL ρ 75 [v31] 1 fun v45 =>
 (OP (.app 1 8) [v45, v44] fun v46 =>
 (CALL ρ 75 [v32] 1 fun v47 =>
 (R [v47, v46, v44])))))) ∧
 (         ((          (CALL ρ 75 [v31] 1 fun v44 =>
 (OP (.rows 1) [v7] fun v45 =>
 (OP (.app 1 8) [v44, v45] fun v46 =>
 (CALL ρ 75 [v32] 1 fun v47 =>
 (R [v47, v46, v45])))))) ∧
 (          (OP (.rows 1) [v7] fun v44 =>
 (CALL ρ 75 [v31] 1 fun v45 =>
 (OP (.app 1 8) [v45, v44] fun v46 =>
 (CALL ρ 75 [v32] 1 fun v47 =>
 (R [v47, v46, v44])))))))))))) fun v44 v45 v46 =>
 (CALL ρ 76 [v7, v8, v9, v39, v40, v38, v13, v14, v42, v36, v22] 1 fun v47 =>
 (OP .len [v47] fun v48 =>
 (LOOP 2 [I 0, v44] fun N0 v49 v50 =>
 (OP (.bin .lss) [v49, v48] fun v51 =>
 (ITE v51
 (OP (.idx 1) [v47, v49] fun v52 =>
 (CALL ρ 77 [v8, v9, v39, v40, v38, v13, v14, v42, v36, v47.cellAt v52 0] 1 fun v53 =>
 (ITE v53
 (CALL ρ 44 [v45, v47.cellAt v52 0] 1 fun v54 =>
 (OP (.un .not) [v54] fun v55 =>
 (ITE v55
 (CALL ρ 44 [v50, v47.cellAt v52 0] 1 fun v56 =>
 (OP (.un .not) [v56] fun v57 =>
 (ITE v57
 (OP (.rows 1) [v47.cellAt v52 0] fun v58 =>
 (OP (.app 1 8) [v50, v58] fun v59 =>
 (OP (.bin .add) [v49, I 1] fun v60 =>
 (N0 [v60, v59]))))
 (OP (.bin .add) [v49, I 1] fun v58 =>
 (N0 [v58, v50])))))
 (OP (.bin .add) [v49, I 1] fun v56 =>
 (N0 [v56, v50])))))
 (OP (.bin .add) [v49, I 1] fun v54 =>
 (N0 [v54, v50])))))
 (OP .len [v50] fun v52 =>
 (OP (.bin .sub) [v52, I 1] fun v53 =>
 (SUB 1 (fun R =>
 (OP (.bin .lss) [v53, I 0] fun v54 =>
 (ITE v54
 (R [bb true])
 (OP (.bin .geq) [v30, I 16] fun v55 =>
 (R [v55]))))) fun v54 =>
 (ITE v54
 (OP (.bin .geq) [I (-1), I 0] fun v55 =>
 (OP (.bin .neq) [v27, v7] fun v56 =>
 (ITE v56
 (ITE v55
 (OP (.rows 16) [I 12, I 0, I 0, v27, I 0, v22, I 0, I 0, I 0, I (-1), I 0, I 0, v29, I 0, .list [], .list []] fun v57 =>
 (Q [v8, v9, v39, v40, v38, v13, v14, v42, v36, v57, I 0]))
 (OP (.rows 16) [I 13, I 0, I 0, v27, I 0, v22, I 0, I 0, I 0, I 0, I 0, I 0, v29, I 0, .list [], .list []] fun v57 =>
 (Q [v8, v9, v39, v40, v38, v13, v14, v42, v36, v57, I 0])))
 (SUB 3 (fun R =>
 (OP .len [v38] fun v57 =>
 (LOOP 1 [I 0] fun N0 v58 =>
 (OP (.bin .lss) [v58, v57] fun v59 =>
 (ITE v59
 (OP (.idx 3) [v38, v58] fun v60 =>
 (SUB 1 (fun R =>
 (OP (.bin .eql) [v38.cellAt v60 0, v29] fun v61 =>
 (ITE v61
 (OP (.bin .eql) [v38.cellAt v60 1, v22] fun v62 =>
 (R [v62]))
 (R [bb false])))) fun v61 =>
 (ITE v61
 (OP (.bin .lss) [v58, I 0] fun v62 =>
 (ITE v62
 (OP (.un .not) [bb false] fun v63 =>
 (R [bb false, v63, v38]))
 (OP (.bin .add) [v58, I 1] fun v63 =>
 (CALL ρ 101 [v38, v58, v63] 1 fun v64 =>
 (OP (.un .not) [bb true] fun v65 =>
 (R [bb true, v65, v64]))))))
 (OP (.bin .add) [v58, I 1] fun v62 =>
 (N0 [v62])))))
 (OP (.bin .lss) [I (-1), I 0] fun v60 =>
 (ITE v60
 (OP (.un .not) [bb false] fun v61 =>
 (R [bb false, v61, v38]))
 (OP (.bin .add) [I (-1), I 1] fun v61 =>
 (CALL ρ 101 [v38, I (-1), v61] 1 fun v62 =>
 (OP (.un .not) [bb true] fun v63 =>
 (R [bb true, v63, v62]))))))))))) fun v57 v58 v59 =>
 (ITE v58
 (Q [v8, v9, v39, v40, v59, v13, v14, v42, v36, .list [], I 0])
 (ITE v55
 (OP (.idx 16) [v40, v22] fun v60 =>
 (CALL ρ 102 [v40.cellAt v60 15, v6, I 3, I 0, I 0, I 0, I (-1), v29] 1 fun v61 =>
 (OP (.idx 16) [v40, v22] fun v62 =>
 (OP (.set 15) [v40, v62, v61] fun v63 =>
 (Q [v8, v9, v39, v63, v59, v13, v14, v42, v36, .list [], I 0])))))
 (OP (.idx 16) [v40, v22] fun v60 =>
 (CALL ρ 102 [v40.cellAt v60 15, v6, I 4, I 0, I 0, I 0, I 0, v29] 1 fun v61 =>
 (OP (.idx 16) [v40, v22] fun v62 =>
 (OP (.set 15) [v40, v62, v61] fun v63 =>
 (Q [v8, v9, v39, v63, v59, v13, v14, v42, v36, .list [], I 0])))))))))))
 (OP (.idx 1) [v50, v53] fun v55 =>
 (OP (.bin .add) [v30, I 1] fun v56 =>
 (OP (.slice 1 false true) [v50, v53] fun v57 =>
 (CALL ρ 75 [v57] 1 fun v58 =>
 (OP (.rows 16) [I 11, I 0, I 0, v50.cellAt v55 0, I 0, v22, I 0, I 0, I 0, v26, v27, v28, v29, v56, v45, v58] fun v59 =>
 (Q [v8, v9, v39, v40, v38, v13, v14, v42, v36, v59, I 0]))))))))))))))))))))))))))
def S_law21_CastOnce (ρ : Fns) (v0 v1 v2 v3 v4 v5 v6 v7 v8 v9 v10 v11 v12 v13 v14 v15 v16 v17 v18 v19 v20 v21 v22 v23 v24 v25 v26 v27 v28 v29 v30 v31 v32 : PV) (Q : List PV → Prop) : Prop :=
 (SUB 1 (fun R =>
 (CALL ρ 8 [v8, v9, v10, v11, v12, v13, v14, v15, v16] 1 fun v33 =>
 (ITE v33
 (R [bb true])
 (CALL ρ 13 [v17, v18, v19, v20, v21, v22, v23, v24, v25, v26, v27, v28, v29, v30, v31, v32] 1 fun v34 =>
 (R [v34]))))) fun v33 =>
 (ITE v33
 (Q [bb true])
 (CALL ρ 14 [v0, v1, v2, v3, v4, v5, v6, v7, v8, v9, v10, v11, v12, v13, v14, v15, v16, v17, v18, v19, v20, v21, v22, v23, v24, v25, v26, v27, v28, v29, v30, v31, v32] 11 fun v34 v35 v36 v37 v38 v39 v40 v41 v42 v43 v44 =>
 (OP (.bin .neq) [v44, I 0] fun v45 =>
 (ITE v45
 (OP .len [v43] fun v46 =>
 (OP (.bin .eql) [v46, I 0] fun v47 =>
 (ITE v47
 (CALL ρ 11 [] 1 fun v48 =>
 (Q [v48]))
 (Q [bb false]))))
 (SUB 1 (fun R =>
 (OP .len [v37] fun v46 =>
 (OP .len [v11] fun v47 =>
 (OP (.bin .neq) [v46, v47] fun v48 =>
 (ITE v48
 (R [bb true])
 (OP (.bin .lss) [v22, I 0] fun v49 =>
 (ITE v49
 (R [bb true])
 (OP .len [v11] fun v50 =>
 (OP (.bin .geq) [v22, v50] fun v51 =>
 (ITE v51
 (R [bb true])
 (OP .len [v43] fun v52 =>
 (OP (.bin .gtr) [v52, I 1] fun v53 =>
 (R [v53]))))))))))))) fun v46 =>
 (ITE v46
 (Q [bb false])
 (CALL ρ 14 [v0, v1, v2, v3, v4, v5, v6, v7, v34, v35, v36, v37, v38, v39, v40, v41, v42, v17, v18, v19, v20, v21, v22, v23, v24, v25, v26, v27, v28, v29, v30, v31, v32] 11 fun v47 v48 v49 v50 v51 v52 v53 v54 v55 v56 v57 =>
 (SUB 1 (fun R =>
 (OP (.bin .neq) [v57, I 0] fun v58 =>
 (ITE v58
 (R [bb true])
 (OP .len [v56] fun v59 =>
 (OP (.bin .gtr) [v59, I 0] fun v60 =>
 (ITE v60
 (R [bb true])
 (CALL ρ 15 [v47, v48, v49, v50, v51, v52, v53, v54, v55, v34, v35, v36, v37, v38, v39, v40, v41, v42] 1 fun v61 =>
 (OP (.un .not) [v61] fun v62 =>
 (R [v62]))))))))) fun v58 =>
 (ITE v58
 (Q [bb false])
 (OP .len [v43] fun v59 =>
 (OP (.bin .eql) [v59, I 0] fun v60 =>
 (ITE v60
 (CALL ρ 11 [] 1 fun v61 =>
 (Q [v61]))
 (OP (.idx 16) [v43, I 0] fun v61 =>
 (OP (.bin .eql) [v43.cellAt v61 0, I 12] fun v62 =>
 (ITE v62
 (OP (.idx 16) [v11, v22] fun v63 =>
 (ITE (v11.cellAt v63 1)
 (OP (.bin .eql) [v43.cellAt v61 3, v27] fun v64 =>
 (ITE v64
 (OP (.bin .eql) [v43.cellAt v61 9, v7] fun v65 =>
 (ITE v65
 (OP (.bin .eql) [v43.cellAt v61 12, v29] fun v66 =>
 (ITE v66
 (OP .len [v42] fun v67 =>
 (OP (.bin .gtr) [v67, I 0] fun v68 =>
 (ITE v68
 (OP .len [v42] fun v69 =>
 (OP (.bin .sub) [v69, I 1] fun v70 =>
 (OP (.idx 5) [v42, v70] fun v71 =>
 (OP (.eqs false [true, true, true, true, true]) [v42.cellAt v71 0, v42.cellAt v71 1, v42.cellAt v71 2, v42.cellAt v71 3, v42.cellAt v71 4, v27, v28, v29, v22, v26] fun v72 =>
 (ITE v72
 (CALL ρ 11 [] 1 fun v73 =>
 (Q [v73]))
 (Q [bb false]))))))
 (Q [bb false]))))
 (Q [bb false])))
 (Q [bb false])))
 (Q [bb false])))
 (Q [bb false])))
 (OP (.bin .eql) [v43.cellAt v61 0, I 13] fun v63 =>
 (ITE v63
 (OP (.idx 16) [v11, v22] fun v64 =>
 (OP (.un .not) [v11.cellAt v64 1] fun v65 =>
 (ITE v65
 (OP (.bin .eql) [v43.cellAt v61 3, v27] fun v66 =>
 (ITE v66
 (OP (.bin .eql) [v43.cellAt v61 12, v29] fun v67 =>
 (ITE v67
 (CALL ρ 11 [] 1 fun v68 =>
 (Q [v68]))
 (Q [bb false])))
 (Q [bb false])))
 (Q [bb false]))))
 (OP (.bin .eql) [v43.cellAt v61 0, I 11] fun v64 =>
 (ITE v64
 (SUB 1 (fun R =>
 (OP (.idx 16) [v11, v22] fun v65 =>
 (ITE (v11.cellAt v65 1)
 (R [bb true])
 (OP (.bin .add) [v30, I 1] fun v66 =>
 (OP (.bin .neq) [v43.cellAt v61 13, v66] fun v67 =>
 (ITE v67
 (R [bb true])
 (OP (.bin .neq) [v43.cellAt v61 10, v27] fun v68 =>
 (ITE v68
 (R [bb true])
 (OP (.bin .neq) [v43.cellAt v61 11, v28] fun v69 =>
 (ITE v69
 (R [bb true])
 (OP (.bin .neq) [v43.cellAt v61 12, v29] fun v70 =>
 (ITE v70
 (R [bb true])
 (OP (.bin .neq) [v43.cellAt v61 9, v26] fun v71 =>
 (ITE v71
 (R [bb true])
 ((                  (CALL ρ 17 [v31] 1 fun v72 =>
 (OP (.rows 1) [v7] fun v73 =>
 (OP (.app 1 8) [v72, v73] fun v74 =>
 (CALL ρ 16 [v43.cellAt v61 14, v74] 1 fun v75 =>
 (OP (.un .not) [v75] fun v76 =>
 (R [v76]))))))) ∧
 (                  (OP (.rows 1) [v7] fun v72 =>
 (CALL ρ 17 [v31] 1 fun v73 =>
 (OP (.app 1 8) [v73, v72] fun v74 =>
 (CALL ρ 16 [v43.cellAt v61 14, v74] 1 fun v75 =>
 (OP (.un .not) [v75] fun v76 =>
 (R [v76])))))))))))))))))))))) fun v65 =>
 (ITE v65
 (Q [bb false])
 (LOOP 1 [I 0] fun N0 v66 =>
 (OP .len [v32] fun v67 =>
 (OP (.bin .lss) [v66, v67] fun v68 =>
 (ITE v68
 (OP (.idx 1) [v32, v66] fun v69 =>
 (OP (.bin .eql) [v32.cellAt v69 0, v7] fun v70 =>
 (ITE v70
 (CALL ρ 11 [] 1 fun v71 =>
 (Q [v71]))
 (OP (.bin .add) [v66, I 1] fun v71 =>
 (N0 [v71])))))
 (LOOP 1 [I 0] fun N1 v69 =>
 (OP .len [v43.cellAt v61 14] fun v70 =>
 (OP (.bin .lss) [v69, v70] fun v71 =>
 (ITE v71
 (OP (.idx 1) [v43.cellAt v61 14, v69] fun v72 =>
 (OP (.bin .eql) [(v43.cellAt v61 14).cellAt v72 0, v43.cellAt v61 3] fun v73 =>
 (ITE v73
 (Q [bb false])
 (OP (.bin .add) [v69, I 1] fun v74 =>
 (N1 [v74])))))
 (CALL ρ 11 [] 1 fun v72 =>
 (Q [v72]))))))))))))
 (Q [bb false])))))))))))))))))))))
end Go.Xt
