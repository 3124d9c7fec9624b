/- The terms. -/
import Derived.Test.YtfcihgjageeglaaV2
set_option maxRecDepth 100000
set_option linter.unusedVariables false
namespace Go.Xt
def S_ring_Is (ρ : Fns) (v0 : PV) (Q : List PV → Prop) : Prop :=
 (OP (.bin .geq) [v0, I 0] fun v1 =>
 (ITE v1
  (OP (.bin .lss) [v0, I 8] fun v2 =>
  (Q [v2]))
  (Q [bb false])))
def S_ring_Node (ρ : Fns) (v0 : PV) (Q : List PV → Prop) : Prop :=
 (CALL ρ 52 [v0] 1 fun v1 =>
 (OP (.un .not) [v1] fun v2 =>
 (ITE v2
  (Q [I 0, I 1])
  (OP .pickA [v0, I 2342812313538366385, I 1863050908023769503, I 81111313352671826, I 2434324899588211290, I 2454816673080883147, I 1342378062264523301, I 820659310660760249, I 2006264061484817761] fun v3 =>
  (Q [v3, I 0])))))
def S_ring_Topic (ρ : Fns) (v0 : PV) (Q : List PV → Prop) : Prop :=
 (OP (.bin .geq) [v0, I 0] fun v1 =>
 (ITE v1
  (OP (.bin .lss) [v0, I 4] fun v2 =>
  (OP (.un .not) [v2] fun v3 =>
  (ITE v3
   (Q [I 0, I 1])
   (OP .pickA [v0, I 1462484242049070477, I 1775212608919665246, I 3535639072113518480, I 3725500155902745375] fun v4 =>
   (Q [v4, I 0])))))
  (OP (.un .not) [bb false] fun v2 =>
  (ITE v2
   (Q [I 0, I 1])
   (OP .pickA [v0, I 1462484242049070477, I 1775212608919665246, I 3535639072113518480, I 3725500155902745375] fun v3 =>
   (Q [v3, I 0]))))))
def S_key_Far (ρ : Fns) (v0 v1 : PV) (Q : List PV → Prop) : Prop :=
 (OP (.bin .sub) [v1, v0] fun v2 =>
 (OP (.bin .lss) [v2, I 0] fun v3 =>
 (ITE v3
  (OP (.bin .add) [v2, I 4611686018427387904] fun v4 =>
  (Q [v4]))
  (Q [v2]))))
def S_ref01_Node (ρ : Fns) (v0 : PV) (Q : List PV → Prop) : Prop :=
 (OP (.rows 1) [I 2342812313538366385, I 1863050908023769503, I 81111313352671826, I 2434324899588211290, I 2454816673080883147, I 1342378062264523301, I 820659310660760249, I 2006264061484817761] fun v1 =>
 (OP (.idx 1) [v1, v0] fun v2 =>
 (Q [v1.cellAt v2 0])))
def S_ref01_Topic (ρ : Fns) (v0 : PV) (Q : List PV → Prop) : Prop :=
 (OP (.rows 1) [I 1462484242049070477, I 1775212608919665246, I 3535639072113518480, I 3725500155902745375] fun v1 =>
 (OP (.idx 1) [v1, v0] fun v2 =>
 (Q [v1.cellAt v2 0])))
def S_ref01_Behind (ρ : Fns) (v0 v1 : PV) (Q : List PV → Prop) : Prop :=
 (OP (.bin .geq) [v1, v0] fun v2 =>
 (ITE v2
  (OP (.bin .sub) [v1, v0] fun v3 =>
  (Q [v3]))
  (OP (.bin .sub) [v0, v1] fun v3 =>
  (OP (.bin .sub) [I 4611686018427387904, v3] fun v4 =>
  (Q [v4])))))
def S_ring_Gap (ρ : Fns) (v0 v1 : PV) (Q : List PV → Prop) : Prop :=
 (CALL ρ 61 [v0] 2 fun v2 v3 =>
 (OP (.bin .neq) [v3, I 0] fun v4 =>
 (ITE v4
  (Q [I 0, v3])
  (CALL ρ 35 [v1] 2 fun v5 v6 =>
  (OP (.bin .neq) [v6, I 0] fun v7 =>
  (ITE v7
   (Q [I 0, v6])
   (CALL ρ 60 [v2, v5] 1 fun v8 =>
   (Q [v8, I 0]))))))))
def S_ring_Nearer (ρ : Fns) (v0 v1 v2 : PV) (Q : List PV → Prop) : Prop :=
 (CALL ρ 46 [v0, v1] 2 fun v3 v4 =>
 (CALL ρ 46 [v0, v2] 2 fun v5 v6 =>
 (OP (.bin .eql) [v4, I 0] fun v7 =>
 (ITE v7
  (OP (.bin .eql) [v6, I 0] fun v8 =>
  (ITE v8
   (OP (.bin .lss) [v3, v5] fun v9 =>
   (Q [v9]))
   (Q [bb false])))
  (Q [bb false])))))
def S_ref01_IsTopic (ρ : Fns) (v0 : PV) (Q : List PV → Prop) : Prop :=
 (OP (.bin .geq) [v0, I 0] fun v1 =>
 (ITE v1
  (OP (.bin .leq) [v0, I 3] fun v2 =>
  (Q [v2]))
  (Q [bb false])))
def S_ref01_IsNode (ρ : Fns) (v0 : PV) (Q : List PV → Prop) : Prop :=
 (OP (.bin .geq) [v0, I 0] fun v1 =>
 (ITE v1
  (OP (.bin .leq) [v0, I 7] fun v2 =>
  (Q [v2]))
  (Q [bb false])))
def S_ref01_Gap (ρ : Fns) (v0 v1 : PV) (Q : List PV → Prop) : Prop :=
 (CALL ρ 73 [v0] 1 fun v2 =>
 (CALL ρ 54 [v1] 1 fun v3 =>
 (CALL ρ 55 [v2, v3] 1 fun v4 =>
 (Q [v4]))))
def S_ref01_Nearer (ρ : Fns) (v0 v1 v2 : PV) (Q : List PV → Prop) : Prop :=
 (CALL ρ 17 [v0] 1 fun v3 =>
 (ITE v3
  (CALL ρ 18 [v1] 1 fun v4 =>
  (ITE v4
   (CALL ρ 18 [v2] 1 fun v5 =>
   (ITE v5
    (CALL ρ 65 [v0, v1] 1 fun v6 =>
    (CALL ρ 65 [v0, v2] 1 fun v7 =>
    (OP (.bin .lss) [v6, v7] fun v8 =>
    (Q [v8]))))
    (Q [bb false])))
   (Q [bb false])))
  (Q [bb false])))
def S_ring_All (ρ : Fns) (v0 : PV) (Q : List PV → Prop) : Prop :=
 (OP .len [v0] fun v1 =>
 (LOOP 1 [I 0] fun N0 v2 =>
  (OP (.bin .lss) [v2, v1] fun v3 =>
  (ITE v3
   (OP (.idx 1) [v0, v2] fun v4 =>
   (CALL ρ 52 [v0.cellAt v4 0] 1 fun v5 =>
   (OP (.un .not) [v5] fun v6 =>
   (ITE v6
    (OP (.bin .geq) [v2, I 0] fun v7 =>
    (OP (.un .not) [v7] fun v8 =>
    (Q [v8])))
    (OP (.bin .add) [v2, I 1] fun v7 =>
    (N0 [v7]))))))
   (OP (.bin .geq) [I (-1), I 0] fun v4 =>
   (OP (.un .not) [v4] fun v5 =>
   (Q [v5])))))))
def S_path_rises (ρ : Fns) (v0 v1 v2 : PV) (Q : List PV → Prop) : Prop :=
 (OP .len [v2] fun v3 =>
 (LOOP 2 [v1, I 0] fun N0 v4 v5 =>
  (OP (.bin .lss) [v5, v3] fun v6 =>
  (ITE v6
   (OP (.idx 1) [v2, v5] fun v7 =>
   (CALL ρ 22 [v0, v2.cellAt v7 0, v4] 1 fun v8 =>
   (OP (.un .not) [v8] fun v9 =>
   (ITE v9
    (Q [bb false])
    (OP (.bin .add) [v5, I 1] fun v10 =>
    (N0 [v2.cellAt v7 0, v10]))))))
   (Q [bb true])))))
def S_path_Check (ρ : Fns) (v0 v1 v2 v3 : PV) (Q : List PV → Prop) : Prop :=
 (CALL ρ 46 [v0, v1] 2 fun v4 v5 =>
 (SUB 1 (fun R =>
   (OP (.bin .neq) [v5, I 0] fun v6 =>
   (ITE v6
    (R [bb true])
    (OP (.bin .lss) [v3, I 1] fun v7 =>
    (ITE v7
     (R [bb true])
     (OP (.bin .gtr) [v3, I 8] fun v8 =>
     (ITE v8
      (R [bb true])
      (CALL ρ 42 [v2] 1 fun v9 =>
      (OP (.un .not) [v9] fun v10 =>
      (R [v10])))))))))) fun v6 =>
 (ITE v6
  (Q [I 1])
  (OP .len [v2] fun v7 =>
  (OP (.bin .gtr) [v7, v3] fun v8 =>
  (ITE v8
   (Q [I 12])
   (CALL ρ 47 [v0, v1, v2] 1 fun v9 =>
   (OP (.un .not) [v9] fun v10 =>
   (ITE v10
    (Q [I 1])
    (Q [I 0]))))))))))
def S_path_Add (ρ : Fns) (v0 v1 v2 : PV) (Q : List PV → Prop) : Prop :=
 (CALL ρ 20 [v0, v1, v2, I 8] 1 fun v3 =>
 (SUB 1 (fun R =>
   (OP (.bin .eql) [v3, I 0] fun v4 =>
   (ITE v4
    (OP .len [v2] fun v5 =>
    (OP (.bin .geq) [v5, I 8] fun v6 =>
    (R [v6])))
    (R [bb false])))) fun v4 =>
 (ITE v4
  (OP (.bin .neq) [I 12, I 0] fun v5 =>
  (ITE v5
   (Q [.list [], I 12])
   (OP (.rows 1) [v1] fun v6 =>
   (OP (.app 1 8) [v6, v2] fun v7 =>
   (Q [v7, I 0])))))
  (OP (.bin .neq) [v3, I 0] fun v5 =>
  (ITE v5
   (Q [.list [], v3])
   (OP (.rows 1) [v1] fun v6 =>
   (OP (.app 1 8) [v6, v2] fun v7 =>
   (Q [v7, I 0]))))))))
def S_path_parent (ρ : Fns) (v0 v1 : PV) (Q : List PV → Prop) : Prop :=
 (OP .len [v0] fun v2 =>
 (OP (.bin .geq) [v1, v2] fun v3 =>
 (ITE v3
  (Q [I (-1)])
  (OP (.idx 1) [v0, v1] fun v4 =>
  (OP .len [v0.cellAt v4 0] fun v5 =>
  (OP (.bin .eql) [v5, I 0] fun v6 =>
  (ITE v6
   (Q [I (-1)])
   (OP (.idx 1) [v0, v1] fun v7 =>
   (OP (.idx 1) [v0.cellAt v7 0, I 0] fun v8 =>
   (Q [(v0.cellAt v7 0).cellAt v8 0]))))))))))
def S_path_Whole (ρ : Fns) (v0 v1 : PV) (Q : List PV → Prop) : Prop :=
 (SUB 1 (fun R =>
   (OP .len [v1] fun v2 =>
   (OP (.bin .gtr) [v2, I 8] fun v3 =>
   (ITE v3
    (R [bb true])
    (OP .len [v1] fun v4 =>
    (LOOP 1 [I 0] fun N0 v5 =>
     (OP (.bin .lss) [v5, v4] fun v6 =>
     (ITE v6
      (OP (.idx 1) [v1, v5] fun v7 =>
      (CALL ρ 42 [v1.cellAt v7 0] 1 fun v8 =>
      (OP (.un .not) [v8] fun v9 =>
      (ITE v9
       (OP (.bin .geq) [v5, I 0] fun v10 =>
       (OP .sel [v3, bb true, v10] fun v11 =>
       (R [v11])))
       (OP (.bin .add) [v5, I 1] fun v10 =>
       (N0 [v10]))))))
      (OP (.bin .geq) [I (-1), I 0] fun v7 =>
      (OP .sel [v3, bb true, v7] fun v8 =>
      (R [v8]))))))))))) fun v2 =>
 (ITE v2
  (Q [bb false])
  (OP .len [v1] fun v3 =>
  (LOOP 1 [I 0] fun N0 v4 =>
   (OP (.bin .lss) [v4, v3] fun v5 =>
   (ITE v5
    (CALL ρ 43 [v1, v4] 1 fun v6 =>
    (LOOP 2 [v6, I 0] fun N1 v7 v8 =>
     (OP (.bin .lss) [v8, I 8] fun v9 =>
     (ITE v9
      (OP (.bin .geq) [v7, I 0] fun v10 =>
      (ITE v10
       (CALL ρ 43 [v1, v7] 1 fun v11 =>
       (OP (.bin .add) [v8, I 1] fun v12 =>
       (N1 [v11, v12])))
       (OP (.bin .add) [v8, I 1] fun v11 =>
       (N1 [v7, v11]))))
      (OP (.bin .geq) [v7, I 0] fun v10 =>
      (ITE v10
       (Q [bb false])
       (OP (.bin .add) [v4, I 1] fun v11 =>
       (N0 [v11]))))))))
    (Q [bb true])))))))
def S_bkeep_TwinInts (ρ : Fns) (v0 : PV) (Q : List PV → Prop) : Prop :=
 (OP (.app 1 8) [.list [], v0] fun v1 =>
 (Q [v1]))
def S_bkeep_Ints (ρ : Fns) (v0 v1 : PV) (Q : List PV → Prop) : Prop :=
 (OP .len [v0] fun v2 =>
 (OP .len [v1] fun v3 =>
 (OP (.bin .neq) [v2, v3] fun v4 =>
 (ITE v4
  (Q [bb false])
  (LOOP 1 [I 0] fun N0 v5 =>
   (OP .len [v0] fun v6 =>
   (OP (.bin .lss) [v5, v6] fun v7 =>
   (ITE v7
    (OP (.idx 1) [v0, v5] fun v8 =>
    (OP (.idx 1) [v1, v5] fun v9 =>
    (OP (.bin .neq) [v0.cellAt v8 0, v1.cellAt v9 0] fun v10 =>
    (ITE v10
     (Q [bb false])
     (OP (.bin .add) [v5, I 1] fun v11 =>
     (N0 [v11]))))))
    (Q [bb true])))))))))
def S_ref10_Path (ρ : Fns) (v0 v1 v2 v3 : PV) (Q : List PV → Prop) : Prop :=
 (LOOP 1 [I 0] fun N0 v4 =>
  (OP .len [v2] fun v5 =>
  (OP (.bin .lss) [v4, v5] fun v6 =>
  (ITE v6
   (OP (.idx 1) [v2, v4] fun v7 =>
   (CALL ρ 18 [v2.cellAt v7 0] 1 fun v8 =>
   (OP (.un .not) [v8] fun v9 =>
   (ITE v9
    (Q [I 1])
    (OP (.bin .add) [v4, I 1] fun v10 =>
    (N0 [v10]))))))
   (OP .len [v2] fun v7 =>
   (OP (.bin .gtr) [v7, v3] fun v8 =>
   (ITE v8
    (Q [I 12])
    (LOOP 2 [v1, I 0] fun N1 v9 v10 =>
     (OP .len [v2] fun v11 =>
     (OP (.bin .lss) [v10, v11] fun v12 =>
     (ITE v12
      (OP (.idx 1) [v2, v10] fun v13 =>
      (CALL ρ 45 [v0, v2.cellAt v13 0, v9] 1 fun v14 =>
      (OP (.un .not) [v14] fun v15 =>
      (ITE v15
       (Q [I 1])
       (OP (.idx 1) [v2, v10] fun v16 =>
       (OP (.bin .add) [v10, I 1] fun v17 =>
       (N1 [v2.cellAt v16 0, v17])))))))
      (Q [I 0]))))))))))))
def S_ref10_Whole (ρ : Fns) (v0 : PV) (Q : List PV → Prop) : Prop :=
 (OP .len [v0] fun v1 =>
 (OP (.bin .gtr) [v1, I 8] fun v2 =>
 (ITE v2
  (Q [bb false])
  (LOOP 1 [I 0] fun N0 v3 =>
   (OP .len [v0] fun v4 =>
   (OP (.bin .lss) [v3, v4] fun v5 =>
   (ITE v5
    (LOOP 1 [I 0] fun N1 v6 =>
     (OP (.idx 1) [v0, v3] fun v7 =>
     (OP .len [v0.cellAt v7 0] fun v8 =>
     (OP (.bin .lss) [v6, v8] fun v9 =>
     (ITE v9
      (OP (.idx 1) [v0, v3] fun v10 =>
      (OP (.idx 1) [v0.cellAt v10 0, v6] fun v11 =>
      (CALL ρ 18 [(v0.cellAt v10 0).cellAt v11 0] 1 fun v12 =>
      (OP (.un .not) [v12] fun v13 =>
      (ITE v13
       (Q [bb false])
       (OP (.bin .add) [v6, I 1] fun v14 =>
       (N1 [v14])))))))
      (OP (.bin .add) [v3, I 1] fun v10 =>
      (N0 [v10])))))))
    (LOOP 1 [I 0] fun N1 v6 =>
     (OP .len [v0] fun v7 =>
     (OP (.bin .lss) [v6, v7] fun v8 =>
     (ITE v8
      (LOOP 2 [v6, I 0] fun N2 v9 v10 =>
       (SUB 1 (fun R =>
         (OP .len [v0] fun v11 =>
         (OP (.bin .lss) [v9, v11] fun v12 =>
         (ITE v12
          (OP (.idx 1) [v0, v9] fun v13 =>
          (OP .len [v0.cellAt v13 0] fun v14 =>
          (OP (.bin .gtr) [v14, I 0] fun v15 =>
          (R [v15]))))
          (R [bb false]))))) fun v11 =>
       (ITE v11
        (OP .len [v0] fun v12 =>
        (OP (.bin .gtr) [v10, v12] fun v13 =>
        (ITE v13
         (Q [bb false])
         (OP (.idx 1) [v0, v9] fun v14 =>
         (OP (.idx 1) [v0.cellAt v14 0, I 0] fun v15 =>
         (OP (.bin .add) [v10, I 1] fun v16 =>
         (N2 [(v0.cellAt v14 0).cellAt v15 0, v16])))))))
        (OP (.bin .add) [v6, I 1] fun v12 =>
        (N1 [v12])))))
      (Q [bb true]))))))))))))
def S_law12_wakes (ρ : Fns) (Q : List PV → Prop) : Prop :=
 (CALL ρ 13 [I 0, I 3, L (α := Int) []] 2 fun v0 v1 =>
 (CALL ρ 20 [I 0, I 1, L (α := Int) [], I 4] 1 fun v2 =>
 (OP (.bin .eql) [v2, I 0] fun v3 =>
 (ITE v3
  (OP (.bin .eql) [v1, I 0] fun v4 =>
  (ITE v4
   (OP (.rows 1) [I 3] fun v5 =>
   (CALL ρ 16 [v0, v5] 1 fun v6 =>
   (ITE v6
    (OP (.rows 1) [I 0] fun v7 =>
    (OP (.rows 1) [.list [], v7] fun v8 =>
    (CALL ρ 14 [I 0, v8] 1 fun v9 =>
    (ITE v9
     (OP (.rows 1) [I 1] fun v10 =>
     (OP (.rows 1) [I 0] fun v11 =>
     (OP (.rows 1) [v10, v11] fun v12 =>
     (CALL ρ 14 [I 0, v12] 1 fun v13 =>
     (OP (.un .not) [v13] fun v14 =>
     (ITE v14
      (CALL ρ 20 [I 9, I 0, L (α := Int) [], I 1] 1 fun v15 =>
      (OP (.bin .eql) [v15, I 1] fun v16 =>
      (Q [v16])))
      (Q [bb false])))))))
     (Q [bb false])))))
    (Q [bb false]))))
   (Q [bb false])))
  (Q [bb false])))))
def S_law12_PathExact (ρ : Fns) (v0 v1 v2 v3 v4 : PV) (Q : List PV → Prop) : Prop :=
 (SUB 1 (fun R =>
   (OP .len [v2] fun v5 =>
   (OP (.bin .gtr) [v5, I 30] fun v6 =>
   (ITE v6
    (R [bb true])
    (OP .len [v4] fun v7 =>
    (OP (.bin .gtr) [v7, I 20] fun v8 =>
    (R [v8]))))))) fun v5 =>
 (ITE v5
  (Q [bb true])
  (LOOP 1 [I 0] fun N0 v6 =>
   (OP .len [v4] fun v7 =>
   (OP (.bin .lss) [v6, v7] fun v8 =>
   (ITE v8
    (OP (.idx 1) [v4, v6] fun v9 =>
    (OP .len [v4.cellAt v9 0] fun v10 =>
    (OP (.bin .gtr) [v10, I 20] fun v11 =>
    (ITE v11
     (Q [bb true])
     (OP (.bin .add) [v6, I 1] fun v12 =>
     (N0 [v12]))))))
    (CALL ρ 12 [v2] 1 fun v9 =>
    (CALL ρ 13 [v0, v1, v9] 2 fun v10 v11 =>
    (SUB 1 (fun R =>
      (CALL ρ 14 [v0, v4] 1 fun v12 =>
      (CALL ρ 15 [v4] 1 fun v13 =>
      (OP (.beq true) [v12, v13] fun v14 =>
      (ITE v14
       (R [bb true])
       (CALL ρ 16 [v9, v2] 1 fun v15 =>
       (OP (.un .not) [v15] fun v16 =>
       (R [v16])))))))) fun v12 =>
    (ITE v12
     (Q [bb false])
     (SUB 1 (fun R =>
       (CALL ρ 17 [v0] 1 fun v13 =>
       (ITE v13
        (CALL ρ 18 [v1] 1 fun v14 =>
        (R [v14]))
        (R [bb false])))) fun v13 =>
     (SUB 2 (fun R =>
       (ITE v13
        (CALL ρ 19 [v0, v1, v2, I 8] 1 fun v14 =>
        (SUB 1 (fun R =>
          (OP (.bin .eql) [v14, I 0] fun v15 =>
          (ITE v15
           (OP .len [v2] fun v16 =>
           (OP (.bin .geq) [v16, I 8] fun v17 =>
           (R [v17])))
           (R [bb false])))) fun v15 =>
        (ITE v15
         (OP (.bin .geq) [v3, I 1] fun v16 =>
         (ITE v16
          (OP (.bin .leq) [v3, I 8] fun v17 =>
          (ITE v17
           (CALL ρ 19 [v0, v1, v2, v3] 1 fun v18 =>
           (R [v18, I 12]))
           (R [I 1, I 12])))
          (R [I 1, I 12])))
         (OP (.bin .geq) [v3, I 1] fun v16 =>
         (ITE v16
          (OP (.bin .leq) [v3, I 8] fun v17 =>
          (ITE v17
           (CALL ρ 19 [v0, v1, v2, v3] 1 fun v18 =>
           (R [v18, v14]))
           (R [I 1, v14])))
          (R [I 1, v14]))))))
        (R [I 1, I 1]))) fun v14 v15 =>
     (SUB 1 (fun R =>
       (CALL ρ 20 [v0, v1, v9, v3] 1 fun v16 =>
       (OP (.bin .neq) [v16, v14] fun v17 =>
       (ITE v17
        (R [bb true])
        (OP (.bin .neq) [v11, v15] fun v18 =>
        (R [v18])))))) fun v16 =>
     (ITE v16
      (Q [bb false])
      (OP (.bin .neq) [v15, I 0] fun v17 =>
      (ITE v17
       (OP .len [v10] fun v18 =>
       (OP (.bin .eql) [v18, I 0] fun v19 =>
       (ITE v19
        (CALL ρ 21 [] 1 fun v20 =>
        (Q [v20]))
        (Q [bb false]))))
       (OP (.rows 1) [v1] fun v18 =>
       (OP (.app 1 8) [v18, v2] fun v19 =>
       (CALL ρ 16 [v10, v19] 1 fun v20 =>
       (ITE v20
        (CALL ρ 21 [] 1 fun v21 =>
        (Q [v21]))
        (Q [bb false])))))))))))))))))))))
def S_law12_PathWhole (ρ : Fns) (v0 v1 : PV) (Q : List PV → Prop) : Prop :=
 (OP .len [v1] fun v2 =>
 (OP (.bin .gtr) [v2, I 8] fun v3 =>
 (ITE v3
  (Q [bb true])
  (OP (.conv .u64) [v0] fun v4 =>
  (OP (.bin .rem) [v4, (.int .u64 4)] fun v5 =>
  (OP (.conv .i64) [v5] fun v6 =>
  (LOOP 2 [I 0, .list []] fun N0 v7 v8 =>
   (OP .len [v1] fun v9 =>
   (OP (.bin .lss) [v7, v9] fun v10 =>
   (ITE v10
    (LOOP 3 [v7, I 0, .list []] fun N1 v11 v12 v13 =>
     (SUB 1 (fun R =>
       (OP (.idx 1) [v1, v7] fun v14 =>
       (OP .len [v1.cellAt v14 0] fun v15 =>
       (OP (.bin .lss) [v12, v15] fun v16 =>
       (ITE v16
        (OP (.bin .lss) [v12, I 40] fun v17 =>
        (ITE v17
         (OP .len [v13] fun v18 =>
         (OP (.bin .lss) [v18, I 8] fun v19 =>
         (R [v19])))
         (R [bb false])))
        (R [bb false])))))) fun v14 =>
     (ITE v14
      (OP (.idx 1) [v1, v7] fun v15 =>
      (OP (.idx 1) [v1.cellAt v15 0, v12] fun v16 =>
      (OP (.conv .u64) [(v1.cellAt v15 0).cellAt v16 0] fun v17 =>
      (OP (.bin .rem) [v17, (.int .u64 8)] fun v18 =>
      (OP (.conv .i64) [v18] fun v19 =>
      (CALL ρ 22 [v6, v19, v11] 1 fun v20 =>
      (ITE v20
       (OP (.rows 1) [v19] fun v21 =>
       (OP (.app 1 8) [v13, v21] fun v22 =>
       (OP (.bin .add) [v12, I 1] fun v23 =>
       (N1 [v19, v23, v22]))))
       (OP (.bin .add) [v12, I 1] fun v21 =>
       (N1 [v11, v21, v13])))))))))
      (CALL ρ 20 [v6, v7, v13, I 8] 1 fun v15 =>
      (OP (.bin .neq) [v15, I 0] fun v16 =>
      (ITE v16
       (Q [bb false])
       (OP (.rows 1) [v13] fun v17 =>
       (OP (.app 1 24) [v8, v17] fun v18 =>
       (OP (.bin .add) [v7, I 1] fun v19 =>
       (N0 [v19, v18]))))))))))
    (CALL ρ 14 [v6, v8] 1 fun v11 =>
    (OP (.un .not) [v11] fun v12 =>
    (ITE v12
     (Q [bb false])
     (SUB 1 (fun R =>
       (OP .len [v8] fun v13 =>
       (OP (.bin .lss) [v13, I 2] fun v14 =>
       (ITE v14
        (R [bb true])
        (OP (.idx 1) [v8, I 1] fun v15 =>
        (OP .len [v8.cellAt v15 0] fun v16 =>
        (OP (.bin .eql) [v16, I 0] fun v17 =>
        (ITE v17
         (OP (.idx 1) [v8, I 0] fun v18 =>
         (OP .len [v8.cellAt v18 0] fun v19 =>
         (OP (.bin .eql) [v19, I 0] fun v20 =>
         (R [v20]))))
         (R [bb false]))))))))) fun v13 =>
     (ITE v13
      (CALL ρ 21 [] 1 fun v14 =>
      (Q [v14]))
      (LOOP 2 [I 0, .list []] fun N1 v14 v15 =>
       (OP .len [v8] fun v16 =>
       (OP (.bin .lss) [v14, v16] fun v17 =>
       (ITE v17
        (SUB 1 (fun R =>
          (OP (.idx 1) [v8, v14] fun v18 =>
          (OP .len [v8.cellAt v18 0] fun v19 =>
          (OP (.bin .gtr) [v19, I 0] fun v20 =>
          (ITE v20
           (OP (.idx 1) [v8, v14] fun v21 =>
           (OP (.idx 1) [v8.cellAt v21 0, I 0] fun v22 =>
           (OP .len [v8] fun v23 =>
           (OP (.bin .lss) [(v8.cellAt v21 0).cellAt v22 0, v23] fun v24 =>
           (ITE v24
            (OP .len [v15] fun v25 =>
            (OP (.bin .eql) [v25, I 0] fun v26 =>
            (R [v26])))
            (R [bb false]))))))
           (R [bb false])))))) fun v18 =>
        (ITE v18
         (LOOP 2 [I 0, v15] fun N2 v19 v20 =>
          (OP .len [v8] fun v21 =>
          (OP (.bin .lss) [v19, v21] fun v22 =>
          (ITE v22
           (OP (.idx 1) [v8, v19] fun v23 =>
           (OP (.rows 1) [v8.cellAt v23 0] fun v24 =>
           (OP (.app 1 24) [v20, v24] fun v25 =>
           (OP (.bin .add) [v19, I 1] fun v26 =>
           (N2 [v26, v25])))))
           (OP (.idx 1) [v8, v14] fun v23 =>
           (OP (.idx 1) [v8.cellAt v23 0, I 0] fun v24 =>
           (OP (.rows 1) [v14] fun v25 =>
           (OP (.idx 1) [v20, (v8.cellAt v23 0).cellAt v24 0] fun v26 =>
           (OP (.set 0) [v20, v26, v25] fun v27 =>
           (OP (.bin .add) [v14, I 1] fun v28 =>
           (N1 [v28, v27])))))))))))
         (OP (.bin .add) [v14, I 1] fun v19 =>
         (N1 [v19, v15]))))
        (OP .len [v15] fun v18 =>
        (OP (.bin .eql) [v18, I 0] fun v19 =>
        (ITE v19
         (CALL ρ 21 [] 1 fun v20 =>
         (Q [v20]))
         (CALL ρ 14 [v6, v15] 1 fun v20 =>
         (OP (.un .not) [v20] fun v21 =>
         (ITE v21
          (CALL ρ 21 [] 1 fun v22 =>
          (Q [v22]))
          (Q [bb false]))))))))))))))))))))))))))
def S_slices_Contains_int_int (ρ : Fns) (v0 v1 : PV) (Q : List PV → Prop) : Prop :=
 (OP .len [v0] fun v2 =>
 (LOOP 1 [I 0] fun N0 v3 =>
  (OP (.bin .lss) [v3, v2] fun v4 =>
  (ITE v4
   (OP (.idx 1) [v0, v3] fun v5 =>
   (OP (.bin .eql) [v1, v0.cellAt v5 0] fun v6 =>
   (ITE v6
    (OP (.bin .geq) [v3, I 0] fun v7 =>
    (Q [v7]))
    (OP (.bin .add) [v3, I 1] fun v7 =>
    (N0 [v7])))))
   (OP (.bin .geq) [I (-1), I 0] fun v5 =>
   (Q [v5]))))))
def S_key_is (ρ : Fns) (v0 : PV) (Q : List PV → Prop) : Prop :=
 (OP (.bin .geq) [v0, I 0] fun v1 =>
 (ITE v1
  (OP (.bin .lss) [v0, I 4611686018427387904] fun v2 =>
  (Q [v2]))
  (Q [bb false])))
def S_key_Behind (ρ : Fns) (v0 v1 : PV) (Q : List PV → Prop) : Prop :=
 (CALL ρ 59 [v0] 1 fun v2 =>
 (OP (.un .not) [v2] fun v3 =>
 (ITE v3
  (Q [I 0, I 1])
  (CALL ρ 59 [v1] 1 fun v4 =>
  (OP (.un .not) [v4] fun v5 =>
  (ITE v5
   (Q [I 0, I 1])
   (CALL ρ 60 [v0, v1] 1 fun v6 =>
   (Q [v6, I 0]))))))))
def S_key_Between (ρ : Fns) (v0 v1 v2 : PV) (Q : List PV → Prop) : Prop :=
 (SUB 1 (fun R =>
   (CALL ρ 59 [v0] 1 fun v3 =>
   (OP (.un .not) [v3] fun v4 =>
   (ITE v4
    (R [bb true])
    (CALL ρ 59 [v1] 1 fun v5 =>
    (OP (.un .not) [v5] fun v6 =>
    (ITE v6
     (R [bb true])
     (CALL ρ 59 [v2] 1 fun v7 =>
     (OP (.un .not) [v7] fun v8 =>
     (R [v8])))))))))) fun v3 =>
 (ITE v3
  (Q [bb false])
  (CALL ρ 60 [v0, v1] 1 fun v4 =>
  (OP (.bin .eql) [v0, v2] fun v5 =>
  (ITE v5
   (Q [bb true])
   (OP (.bin .gtr) [v4, I 0] fun v6 =>
   (ITE v6
    (CALL ρ 60 [v0, v2] 1 fun v7 =>
    (OP (.bin .leq) [v4, v7] fun v8 =>
    (Q [v8])))
    (Q [bb false]))))))))
def S_key_Back (ρ : Fns) (v0 v1 : PV) (Q : List PV → Prop) : Prop :=
 (CALL ρ 59 [v0] 1 fun v2 =>
 (OP (.un .not) [v2] fun v3 =>
 (ITE v3
  (Q [I 0, I 1])
  (OP (.bin .lss) [v1, I 0] fun v4 =>
  (ITE v4
   (Q [I 0, I 1])
   (OP (.bin .gtr) [v1, I 61] fun v5 =>
   (ITE v5
    (Q [I 0, I 1])
    (OP (.bin .shl) [I 1, v1] fun v6 =>
    (CALL ρ 60 [v6, v0] 1 fun v7 =>
    (Q [v7, I 0]))))))))))
def S_ring_Owner (ρ : Fns) (v0 v1 : PV) (Q : List PV → Prop) : Prop :=
 (CALL ρ 61 [v0] 2 fun v2 v3 =>
 (OP (.bin .neq) [v3, I 0] fun v4 =>
 (ITE v4
  (Q [I 0, v3])
  (CALL ρ 42 [v1] 1 fun v5 =>
  (OP (.un .not) [v5] fun v6 =>
  (ITE v6
   (Q [I 0, I 1])
   (OP .len [v1] fun v7 =>
   (OP (.bin .eql) [v7, I 0] fun v8 =>
   (ITE v8
    (Q [I 0, I 7])
    (OP (.idx 1) [v1, I 0] fun v9 =>
    (OP .len [v1] fun v10 =>
    (LOOP 2 [v1.cellAt v9 0, I 0] fun N0 v11 v12 =>
     (OP (.bin .lss) [v12, v10] fun v13 =>
     (ITE v13
      (OP (.idx 1) [v1, v12] fun v14 =>
      (CALL ρ 22 [v0, v1.cellAt v14 0, v11] 1 fun v15 =>
      (ITE v15
       (OP (.bin .add) [v12, I 1] fun v16 =>
       (N0 [v1.cellAt v14 0, v16]))
       (OP (.bin .add) [v12, I 1] fun v16 =>
       (N0 [v11, v16])))))
      (Q [v11, I 0])))))))))))))))
def S_route_Check (ρ : Fns) (v0 v1 : PV) (Q : List PV → Prop) : Prop :=
 (OP .len [v0] fun v2 =>
 (LOOP 1 [I 0] fun N0 v3 =>
  (OP (.bin .lss) [v3, v2] fun v4 =>
  (ITE v4
   (OP (.idx 1) [v0, v3] fun v5 =>
   (CALL ρ 52 [v0.cellAt v5 0] 1 fun v6 =>
   (OP (.un .not) [v6] fun v7 =>
   (ITE v7
    (Q [I 1])
    (OP (.bin .gtr) [v3, I 0] fun v8 =>
    (ITE v8
     (OP (.bin .sub) [v3, I 1] fun v9 =>
     (OP (.idx 1) [v0, v9] fun v10 =>
     (OP (.bin .geq) [v0.cellAt v10 0, v0.cellAt v5 0] fun v11 =>
     (ITE v11
      (Q [I 1])
      (OP (.bin .add) [v3, I 1] fun v12 =>
      (N0 [v12]))))))
     (OP (.bin .add) [v3, I 1] fun v9 =>
     (N0 [v9]))))))))
   (CALL ρ 53 [v0, v1] 1 fun v5 =>
   (OP (.un .not) [v5] fun v6 =>
   (ITE v6
    (Q [I 1])
    (Q [I 0]))))))))
def S_route_first (ρ : Fns) (v0 v1 : PV) (Q : List PV → Prop) : Prop :=
 (OP .len [v0] fun v2 =>
 (LOOP 3 [I (-1), I 0, I 0] fun N0 v3 v4 v5 =>
  (OP (.bin .lss) [v5, v2] fun v6 =>
  (ITE v6
   (OP (.idx 1) [v0, v5] fun v7 =>
   (CALL ρ 35 [v0.cellAt v7 0] 2 fun v8 v9 =>
   (CALL ρ 60 [v1, v8] 1 fun v10 =>
   (OP (.bin .lss) [v3, I 0] fun v11 =>
   (ITE v11
    (OP (.bin .add) [v5, I 1] fun v12 =>
    (N0 [v0.cellAt v7 0, v10, v12]))
    (OP (.bin .lss) [v10, v4] fun v12 =>
    (ITE v12
     (OP (.bin .add) [v5, I 1] fun v13 =>
     (N0 [v0.cellAt v7 0, v10, v13]))
     (OP (.bin .add) [v5, I 1] fun v13 =>
     (N0 [v3, v4, v13])))))))))
   (Q [v3])))))
def S_route_ahead (ρ : Fns) (v0 v1 : PV) (Q : List PV → Prop) : Prop :=
 (CALL ρ 35 [v1] 2 fun v2 v3 =>
 (OP .len [v0] fun v4 =>
 (LOOP 3 [I (-1), I 0, I 0] fun N0 v5 v6 v7 =>
  (OP (.bin .lss) [v7, v4] fun v8 =>
  (ITE v8
   (OP (.idx 1) [v0, v7] fun v9 =>
   (CALL ρ 35 [v0.cellAt v9 0] 2 fun v10 v11 =>
   (CALL ρ 60 [v10, v2] 1 fun v12 =>
   (OP (.bin .neq) [v0.cellAt v9 0, v1] fun v13 =>
   (ITE v13
    (OP (.bin .lss) [v5, I 0] fun v14 =>
    (ITE v14
     (OP (.bin .add) [v7, I 1] fun v15 =>
     (N0 [v0.cellAt v9 0, v12, v15]))
     (OP (.bin .lss) [v12, v6] fun v15 =>
     (ITE v15
      (OP (.bin .add) [v7, I 1] fun v16 =>
      (N0 [v0.cellAt v9 0, v12, v16]))
      (OP (.bin .add) [v7, I 1] fun v16 =>
      (N0 [v5, v6, v16]))))))
    (OP (.bin .add) [v7, I 1] fun v14 =>
    (N0 [v5, v6, v14])))))))
   (Q [v5]))))))
def S_route_Ahead (ρ : Fns) (v0 v1 : PV) (Q : List PV → Prop) : Prop :=
 (CALL ρ 28 [v0, v1] 1 fun v2 =>
 (OP (.bin .neq) [v2, I 0] fun v3 =>
 (ITE v3
  (Q [I 0, v2])
  (CALL ρ 48 [v0, v1] 1 fun v4 =>
  (OP (.bin .lss) [v4, I 0] fun v5 =>
  (ITE v5
   (Q [I 0, I 7])
   (Q [v4, I 0])))))))
def S_route_fingers (ρ : Fns) (v0 v1 : PV) (Q : List PV → Prop) : Prop :=
 (CALL ρ 35 [v1] 2 fun v2 v3 =>
 (LOOP 2 [I 0, .list []] fun N0 v4 v5 =>
  (OP (.bin .lss) [v4, I 62] fun v6 =>
  (ITE v6
   (CALL ρ 37 [v2, v4] 2 fun v7 v8 =>
   (CALL ρ 66 [v0, v7] 1 fun v9 =>
   (OP (.bin .neq) [v9, v1] fun v10 =>
   (ITE v10
    (OP (.rows 1) [v9] fun v11 =>
    (OP (.app 1 8) [v5, v11] fun v12 =>
    (OP (.bin .add) [v4, I 1] fun v13 =>
    (N0 [v13, v12]))))
    (OP (.bin .add) [v4, I 1] fun v11 =>
    (N0 [v11, v5]))))))
   (CALL ρ 67 [v5] 1 fun v7 =>
   (CALL ρ 68 [v7] 1 fun v8 =>
   (Q [v8])))))))
def S_route_Fingers (ρ : Fns) (v0 v1 : PV) (Q : List PV → Prop) : Prop :=
 (CALL ρ 28 [v0, v1] 1 fun v2 =>
 (OP (.bin .neq) [v2, I 0] fun v3 =>
 (ITE v3
  (Q [.list [], v2])
  (CALL ρ 49 [v0, v1] 1 fun v4 =>
  (Q [v4, I 0])))))
def S_route_next (ρ : Fns) (v0 v1 v2 : PV) (Q : List PV → Prop) : Prop :=
 (CALL ρ 49 [v1, v2] 1 fun v3 =>
 (CALL ρ 48 [v1, v2] 1 fun v4 =>
 (OP (.rows 1) [v4] fun v5 =>
 (OP (.app 1 8) [v3, v5] fun v6 =>
 (OP .len [v6] fun v7 =>
 (LOOP 2 [v2, I 0] fun N0 v8 v9 =>
  (OP (.bin .lss) [v9, v7] fun v10 =>
  (ITE v10
   (OP (.idx 1) [v6, v9] fun v11 =>
   (CALL ρ 22 [v0, v6.cellAt v11 0, v8] 1 fun v12 =>
   (ITE v12
    (OP (.bin .add) [v9, I 1] fun v13 =>
    (N0 [v6.cellAt v11 0, v13]))
    (OP (.bin .add) [v9, I 1] fun v13 =>
    (N0 [v8, v13])))))
   (OP (.bin .eql) [v8, v2] fun v11 =>
   (ITE v11
    (Q [I (-1)])
    (Q [v8])))))))))))
def S_route_asked (ρ : Fns) (v0 v1 v2 : PV) (Q : List PV → Prop) : Prop :=
 (CALL ρ 28 [v1, v2] 1 fun v3 =>
 (OP (.bin .eql) [v3, I 0] fun v4 =>
 (ITE v4
  (CALL ρ 61 [v0] 2 fun v5 v6 =>
  (Q [v6]))
  (Q [v3]))))
def S_route_Next (ρ : Fns) (v0 v1 v2 : PV) (Q : List PV → Prop) : Prop :=
 (CALL ρ 50 [v0, v1, v2] 1 fun v3 =>
 (OP (.bin .neq) [v3, I 0] fun v4 =>
 (ITE v4
  (Q [I 0, bb false, v3])
  (CALL ρ 51 [v0, v1, v2] 1 fun v5 =>
  (OP (.bin .lss) [v5, I 0] fun v6 =>
  (ITE v6
   (Q [I 0, bb false, I 0])
   (Q [v5, bb true, I 0])))))))
def S_route_Way (ρ : Fns) (v0 v1 v2 : PV) (Q : List PV → Prop) : Prop :=
 (CALL ρ 50 [v0, v1, v2] 1 fun v3 =>
 (OP (.bin .neq) [v3, I 0] fun v4 =>
 (ITE v4
  (Q [.list [], v3])
  (CALL ρ 51 [v0, v1, v2] 1 fun v5 =>
  (LOOP 2 [v5, .list []] fun N0 v6 v7 =>
   (OP (.bin .geq) [v6, I 0] fun v8 =>
   (ITE v8
    (OP (.rows 1) [v6] fun v9 =>
    (OP (.app 1 8) [v7, v9] fun v10 =>
    (CALL ρ 51 [v0, v1, v6] 1 fun v11 =>
    (N0 [v11, v10]))))
    (Q [v7, I 0]))))))))
def S_ref10_Nodes (ρ : Fns) (v0 v1 : PV) (Q : List PV → Prop) : Prop :=
 (LOOP 2 [bb false, I 0] fun N0 v2 v3 =>
  (OP .len [v0] fun v4 =>
  (OP (.bin .lss) [v3, v4] fun v5 =>
  (ITE v5
   (OP (.idx 1) [v0, v3] fun v6 =>
   (CALL ρ 18 [v0.cellAt v6 0] 1 fun v7 =>
   (OP (.un .not) [v7] fun v8 =>
   (ITE v8
    (Q [bb false])
    (OP (.bin .gtr) [v3, I 0] fun v9 =>
    (ITE v9
     (OP (.idx 1) [v0, v3] fun v10 =>
     (OP (.bin .sub) [v3, I 1] fun v11 =>
     (OP (.idx 1) [v0, v11] fun v12 =>
     (OP (.bin .leq) [v0.cellAt v10 0, v0.cellAt v12 0] fun v13 =>
     (ITE v13
      (Q [bb false])
      (ITE v2
       (OP (.bin .add) [v3, I 1] fun v14 =>
       (N0 [bb true, v14]))
       (OP (.idx 1) [v0, v3] fun v14 =>
       (OP (.bin .eql) [v0.cellAt v14 0, v1] fun v15 =>
       (OP (.bin .add) [v3, I 1] fun v16 =>
       (N0 [v15, v16]))))))))))
     (ITE v2
      (OP (.bin .add) [v3, I 1] fun v10 =>
      (N0 [bb true, v10]))
      (OP (.idx 1) [v0, v3] fun v10 =>
      (OP (.bin .eql) [v0.cellAt v10 0, v1] fun v11 =>
      (OP (.bin .add) [v3, I 1] fun v12 =>
      (N0 [v11, v12])))))))))))
   (Q [v2])))))
def S_ref10_behind (ρ : Fns) (v0 v1 : PV) (Q : List PV → Prop) : Prop :=
 (CALL ρ 54 [v0] 1 fun v2 =>
 (CALL ρ 54 [v1] 1 fun v3 =>
 (CALL ρ 55 [v2, v3] 1 fun v4 =>
 (Q [v4]))))
def S_ref10_Ahead (ρ : Fns) (v0 v1 : PV) (Q : List PV → Prop) : Prop :=
 (LOOP 2 [I (-1), I 0] fun N0 v2 v3 =>
  (OP .len [v0] fun v4 =>
  (OP (.bin .lss) [v3, v4] fun v5 =>
  (ITE v5
   (OP (.idx 1) [v0, v3] fun v6 =>
   (OP (.bin .neq) [v0.cellAt v6 0, v1] fun v7 =>
   (ITE v7
    (OP (.bin .lss) [v2, I 0] fun v8 =>
    (ITE v8
     (OP (.bin .add) [v3, I 1] fun v9 =>
     (N0 [v0.cellAt v6 0, v9]))
     (CALL ρ 56 [v0.cellAt v6 0, v1] 1 fun v9 =>
     (CALL ρ 56 [v2, v1] 1 fun v10 =>
     (OP (.bin .lss) [v9, v10] fun v11 =>
     (ITE v11
      (OP (.bin .add) [v3, I 1] fun v12 =>
      (N0 [v0.cellAt v6 0, v12]))
      (OP (.bin .add) [v3, I 1] fun v12 =>
      (N0 [v2, v12]))))))))
    (OP (.bin .add) [v3, I 1] fun v8 =>
    (N0 [v2, v8])))))
   (Q [v2])))))
def S_ref10_Fingers (ρ : Fns) (v0 v1 : PV) (Q : List PV → Prop) : Prop :=
 (OP (.repl 1 [(.bool false)]) [I 8] fun v2 =>
 (CALL ρ 54 [v1] 1 fun v3 =>
 (LOOP 2 [I 0, v2] fun N0 v4 v5 =>
  (OP (.bin .lss) [v4, I 62] fun v6 =>
  (ITE v6
   (OP (.bin .shl) [I 1, v4] fun v7 =>
   (OP (.bin .sub) [v3, v7] fun v8 =>
   (OP (.bin .lss) [v8, I 0] fun v9 =>
   (SUB 1 (fun R =>
     (ITE v9
      (OP (.bin .sub) [I 4611686018427387904, v7] fun v10 =>
      (OP (.bin .add) [v3, v10] fun v11 =>
      (R [v11])))
      (R [v8]))) fun v10 =>
   (LOOP 2 [I (-1), I 0] fun N1 v11 v12 =>
    (OP .len [v0] fun v13 =>
    (OP (.bin .lss) [v12, v13] fun v14 =>
    (ITE v14
     (OP (.bin .lss) [v11, I 0] fun v15 =>
     (ITE v15
      (OP (.idx 1) [v0, v12] fun v16 =>
      (OP (.bin .add) [v12, I 1] fun v17 =>
      (N1 [v0.cellAt v16 0, v17])))
      (OP (.idx 1) [v0, v12] fun v16 =>
      (CALL ρ 54 [v0.cellAt v16 0] 1 fun v17 =>
      (CALL ρ 55 [v10, v17] 1 fun v18 =>
      (CALL ρ 54 [v11] 1 fun v19 =>
      (CALL ρ 55 [v10, v19] 1 fun v20 =>
      (OP (.bin .lss) [v18, v20] fun v21 =>
      (ITE v21
       (OP (.idx 1) [v0, v12] fun v22 =>
       (OP (.bin .add) [v12, I 1] fun v23 =>
       (N1 [v0.cellAt v22 0, v23])))
       (OP (.bin .add) [v12, I 1] fun v22 =>
       (N1 [v11, v22])))))))))))
     (OP (.idx 1) [v5, v11] fun v15 =>
     (OP (.set 0) [v5, v15, bb true] fun v16 =>
     (OP (.bin .add) [v4, I 1] fun v17 =>
     (N0 [v17, v16]))))))))))))
   (LOOP 2 [I 0, .list []] fun N1 v7 v8 =>
    (OP .len [v5] fun v9 =>
    (OP (.bin .lss) [v7, v9] fun v10 =>
    (ITE v10
     (OP (.idx 1) [v5, v7] fun v11 =>
     (ITE (v5.cellAt v11 0)
      (OP (.bin .neq) [v7, v1] fun v12 =>
      (ITE v12
       (OP (.rows 1) [v7] fun v13 =>
       (OP (.app 1 8) [v8, v13] fun v14 =>
       (OP (.bin .add) [v7, I 1] fun v15 =>
       (N1 [v15, v14]))))
       (OP (.bin .add) [v7, I 1] fun v13 =>
       (N1 [v13, v8]))))
      (OP (.bin .add) [v7, I 1] fun v12 =>
      (N1 [v12, v8]))))
     (Q [v8]))))))))))
def S_ref01_Owner (ρ : Fns) (v0 v1 : PV) (Q : List PV → Prop) : Prop :=
 (LOOP 2 [I (-1), I 0] fun N0 v2 v3 =>
  (OP .len [v1] fun v4 =>
  (OP (.bin .lss) [v3, v4] fun v5 =>
  (ITE v5
   (OP (.bin .lss) [v2, I 0] fun v6 =>
   (ITE v6
    (OP (.idx 1) [v1, v3] fun v7 =>
    (OP (.bin .add) [v3, I 1] fun v8 =>
    (N0 [v1.cellAt v7 0, v8])))
    (OP (.idx 1) [v1, v3] fun v7 =>
    (CALL ρ 65 [v0, v1.cellAt v7 0] 1 fun v8 =>
    (CALL ρ 65 [v0, v2] 1 fun v9 =>
    (OP (.bin .lss) [v8, v9] fun v10 =>
    (ITE v10
     (OP (.idx 1) [v1, v3] fun v11 =>
     (OP (.bin .add) [v3, I 1] fun v12 =>
     (N0 [v1.cellAt v11 0, v12])))
     (OP (.bin .add) [v3, I 1] fun v11 =>
     (N0 [v2, v11])))))))))
   (Q [v2])))))
def S_ref10_Next (ρ : Fns) (v0 v1 v2 : PV) (Q : List PV → Prop) : Prop :=
 (CALL ρ 57 [v0, v1] 1 fun v3 =>
 (OP (.bin .eql) [v3, v2] fun v4 =>
 (ITE v4
  (Q [I (-1)])
  (CALL ρ 30 [v1, v2] 1 fun v5 =>
  (CALL ρ 31 [v1, v2] 1 fun v6 =>
  (OP (.rows 1) [v6] fun v7 =>
  (OP (.app 1 8) [v5, v7] fun v8 =>
  (LOOP 2 [I (-1), I 0] fun N0 v9 v10 =>
   (OP .len [v8] fun v11 =>
   (OP (.bin .lss) [v10, v11] fun v12 =>
   (ITE v12
    (OP (.idx 1) [v8, v10] fun v13 =>
    (OP (.bin .geq) [v8.cellAt v13 0, I 0] fun v14 =>
    (ITE v14
     (OP (.idx 1) [v8, v10] fun v15 =>
     (CALL ρ 45 [v0, v8.cellAt v15 0, v2] 1 fun v16 =>
     (ITE v16
      (OP (.bin .lss) [v9, I 0] fun v17 =>
      (ITE v17
       (OP (.idx 1) [v8, v10] fun v18 =>
       (OP (.bin .add) [v10, I 1] fun v19 =>
       (N0 [v8.cellAt v18 0, v19])))
       (OP (.idx 1) [v8, v10] fun v18 =>
       (CALL ρ 45 [v0, v8.cellAt v18 0, v9] 1 fun v19 =>
       (ITE v19
        (OP (.idx 1) [v8, v10] fun v20 =>
        (OP (.bin .add) [v10, I 1] fun v21 =>
        (N0 [v8.cellAt v20 0, v21])))
        (OP (.bin .add) [v10, I 1] fun v20 =>
        (N0 [v9, v20])))))))
      (OP (.bin .add) [v10, I 1] fun v17 =>
      (N0 [v9, v17])))))
     (OP (.bin .add) [v10, I 1] fun v15 =>
     (N0 [v9, v15])))))
    (Q [v9]))))))))))))
def S_ref10_Way (ρ : Fns) (v0 v1 v2 : PV) (Q : List PV → Prop) : Prop :=
 (CALL ρ 32 [v0, v1, v2] 1 fun v3 =>
 (LOOP 2 [v3, .list []] fun N0 v4 v5 =>
  (OP (.bin .geq) [v4, I 0] fun v6 =>
  (ITE v6
   (OP (.rows 1) [v4] fun v7 =>
   (OP (.app 1 8) [v5, v7] fun v8 =>
   (CALL ρ 32 [v0, v1, v4] 1 fun v9 =>
   (N0 [v9, v8]))))
   (Q [v5])))))
def S_law11_Some (ρ : Fns) (v0 v1 : PV) (Q : List PV → Prop) : Prop :=
 (OP (.conv .u64) [v0] fun v2 =>
 (OP (.bin .rem) [v2, (.int .u64 255)] fun v3 =>
 (OP (.conv .i64) [v3] fun v4 =>
 (OP (.bin .add) [I 1, v4] fun v5 =>
 (LOOP 2 [I 0, .list []] fun N0 v6 v7 =>
  (OP (.bin .lss) [v6, I 8] fun v8 =>
  (ITE v8
   (OP (.bin .shr) [v5, v6] fun v9 =>
   (OP (.bin .rem) [v9, I 2] fun v10 =>
   (OP (.bin .eql) [v10, I 1] fun v11 =>
   (ITE v11
    (OP (.rows 1) [v6] fun v12 =>
    (OP (.app 1 8) [v7, v12] fun v13 =>
    (OP (.bin .add) [v6, I 1] fun v14 =>
    (N0 [v14, v13]))))
    (OP (.bin .add) [v6, I 1] fun v12 =>
    (N0 [v12, v7]))))))
   (OP (.conv .u64) [v1] fun v9 =>
   (OP .len [v7] fun v10 =>
   (OP (.conv .u64) [v10] fun v11 =>
   (OP (.bin .rem) [v9, v11] fun v12 =>
   (OP (.conv .i64) [v12] fun v13 =>
   (OP (.idx 1) [v7, v13] fun v14 =>
   (Q [v7, v7.cellAt v14 0]))))))))))))))
def S_law11_wakes (ρ : Fns) (Q : List PV → Prop) : Prop :=
 (OP (.rows 1) [I 0, I 1] fun v0 =>
 (CALL ρ 23 [v0, I 0] 2 fun v1 v2 =>
 (OP (.rows 1) [I 0, I 1] fun v3 =>
 (CALL ρ 24 [v3, I 0] 2 fun v4 v5 =>
 (OP (.rows 1) [I 2] fun v6 =>
 (CALL ρ 25 [I 0, v6, I 2] 3 fun v7 v8 v9 =>
 (OP (.rows 1) [I 2] fun v10 =>
 (CALL ρ 23 [v10, I 2] 2 fun v11 v12 =>
 (OP (.rows 1) [I 2] fun v13 =>
 (CALL ρ 26 [I 0, v13, I 2] 2 fun v14 v15 =>
 (OP (.bin .eql) [v2, I 0] fun v16 =>
 (ITE v16
  (OP (.bin .eql) [v1, I 1] fun v17 =>
  (ITE v17
   (OP (.bin .eql) [v5, I 0] fun v18 =>
   (ITE v18
    (OP (.rows 1) [I 1] fun v19 =>
    (CALL ρ 16 [v4, v19] 1 fun v20 =>
    (ITE v20
     (OP (.un .not) [v8] fun v21 =>
     (ITE v21
      (OP (.bin .eql) [v9, I 0] fun v22 =>
      (ITE v22
       (OP (.bin .eql) [v12, I 7] fun v23 =>
       (ITE v23
        (OP (.bin .eql) [v15, I 0] fun v24 =>
        (ITE v24
         (OP .len [v14] fun v25 =>
         (OP (.bin .eql) [v25, I 0] fun v26 =>
         (ITE v26
          (CALL ρ 28 [L (α := Int) [], I 0] 1 fun v27 =>
          (OP (.bin .eql) [v27, I 1] fun v28 =>
          (Q [v28])))
          (Q [bb false]))))
         (Q [bb false])))
        (Q [bb false])))
       (Q [bb false])))
      (Q [bb false])))
     (Q [bb false]))))
    (Q [bb false])))
   (Q [bb false])))
  (Q [bb false])))))))))))))
def S_law11_RouteExact (ρ : Fns) (v0 v1 v2 : PV) (Q : List PV → Prop) : Prop :=
 (OP .len [v1] fun v3 =>
 (OP (.bin .gtr) [v3, I 30] fun v4 =>
 (ITE v4
  (Q [bb true])
  (CALL ρ 12 [v1] 1 fun v5 =>
  (CALL ρ 23 [v5, v2] 2 fun v6 v7 =>
  (CALL ρ 24 [v5, v2] 2 fun v8 v9 =>
  (CALL ρ 25 [v0, v5, v2] 3 fun v10 v11 v12 =>
  (CALL ρ 26 [v0, v5, v2] 2 fun v13 v14 =>
  (CALL ρ 16 [v5, v1] 1 fun v15 =>
  (OP (.un .not) [v15] fun v16 =>
  (ITE v16
   (Q [bb false])
   (CALL ρ 27 [v1, v2] 1 fun v17 =>
   (OP (.un .not) [v17] fun v18 =>
   (ITE v18
    (CALL ρ 28 [v5, v2] 1 fun v19 =>
    (OP (.bin .eql) [v19, I 1] fun v20 =>
    (ITE v20
     (OP (.bin .eql) [v7, I 1] fun v21 =>
     (ITE v21
      (OP (.bin .eql) [v9, I 1] fun v22 =>
      (ITE v22
       (OP (.bin .eql) [v12, I 1] fun v23 =>
       (ITE v23
        (OP (.bin .eql) [v14, I 1] fun v24 =>
        (ITE v24
         (OP (.un .not) [v11] fun v25 =>
         (ITE v25
          (OP (.bin .add) [v6, v10] fun v26 =>
          (OP .len [v8] fun v27 =>
          (OP (.bin .add) [v26, v27] fun v28 =>
          (OP .len [v13] fun v29 =>
          (OP (.bin .add) [v28, v29] fun v30 =>
          (OP (.bin .eql) [v30, I 0] fun v31 =>
          (ITE v31
           (CALL ρ 29 [] 1 fun v32 =>
           (Q [v32]))
           (Q [bb false]))))))))
          (Q [bb false])))
         (Q [bb false])))
        (Q [bb false])))
       (Q [bb false])))
      (Q [bb false])))
     (Q [bb false]))))
    (SUB 1 (fun R =>
      (CALL ρ 28 [v5, v2] 1 fun v19 =>
      (OP (.bin .neq) [v19, I 0] fun v20 =>
      (ITE v20
       (R [bb true])
       (OP (.bin .neq) [v9, I 0] fun v21 =>
       (ITE v21
        (R [bb true])
        (CALL ρ 30 [v1, v2] 1 fun v22 =>
        (CALL ρ 16 [v8, v22] 1 fun v23 =>
        (OP (.un .not) [v23] fun v24 =>
        (R [v24])))))))))) fun v19 =>
    (ITE v19
     (Q [bb false])
     (CALL ρ 31 [v1, v2] 1 fun v20 =>
     (SUB 1 (fun R =>
       (OP (.bin .lss) [v20, I 0] fun v21 =>
       (ITE v21
        (OP (.bin .neq) [v7, I 7] fun v22 =>
        (ITE v22
         (R [bb true])
         (OP (.bin .neq) [v6, I 0] fun v23 =>
         (ITE v23
          (R [bb true])
          (OP (.bin .geq) [v20, I 0] fun v24 =>
          (ITE v24
           (OP (.bin .neq) [v7, I 0] fun v25 =>
           (ITE v25
            (R [bb true])
            (OP (.bin .neq) [v6, v20] fun v26 =>
            (R [v26]))))
           (R [bb false])))))))
        (OP (.bin .geq) [v20, I 0] fun v22 =>
        (ITE v22
         (OP (.bin .neq) [v7, I 0] fun v23 =>
         (ITE v23
          (R [bb true])
          (OP (.bin .neq) [v6, v20] fun v24 =>
          (R [v24]))))
         (R [bb false])))))) fun v21 =>
     (ITE v21
      (Q [bb false])
      (CALL ρ 17 [v0] 1 fun v22 =>
      (OP (.un .not) [v22] fun v23 =>
      (ITE v23
       (OP (.bin .eql) [v12, I 1] fun v24 =>
       (ITE v24
        (OP (.bin .eql) [v14, I 1] fun v25 =>
        (ITE v25
         (OP (.un .not) [v11] fun v26 =>
         (ITE v26
          (OP .len [v13] fun v27 =>
          (OP (.bin .add) [v10, v27] fun v28 =>
          (OP (.bin .eql) [v28, I 0] fun v29 =>
          (ITE v29
           (CALL ρ 29 [] 1 fun v30 =>
           (Q [v30]))
           (Q [bb false])))))
          (Q [bb false])))
         (Q [bb false])))
        (Q [bb false])))
       (CALL ρ 32 [v0, v1, v2] 1 fun v24 =>
       (OP (.bin .eql) [v12, I 0] fun v25 =>
       (ITE v25
        (OP (.bin .geq) [v24, I 0] fun v26 =>
        (OP (.beq false) [v11, v26] fun v27 =>
        (ITE v27
         (OP .mx [v24, I 0] fun v28 =>
         (OP (.bin .eql) [v10, v28] fun v29 =>
         (ITE v29
          (OP (.bin .eql) [v14, I 0] fun v30 =>
          (ITE v30
           (CALL ρ 33 [v0, v1, v2] 1 fun v31 =>
           (CALL ρ 16 [v13, v31] 1 fun v32 =>
           (ITE v32
            (CALL ρ 29 [] 1 fun v33 =>
            (Q [v33]))
            (Q [bb false]))))
           (Q [bb false])))
          (Q [bb false]))))
         (Q [bb false]))))
        (Q [bb false]))))))))))))))))))))))))))
def S_law11_RouteWay (ρ : Fns) (v0 v1 v2 : PV) (Q : List PV → Prop) : Prop :=
 (OP (.conv .u64) [v0] fun v3 =>
 (OP (.bin .rem) [v3, (.int .u64 4)] fun v4 =>
 (OP (.conv .i64) [v4] fun v5 =>
 (CALL ρ 34 [v1, v2] 2 fun v6 v7 =>
 (CALL ρ 26 [v5, v6, v7] 2 fun v8 v9 =>
 (CALL ρ 39 [v5, v6] 2 fun v10 v11 =>
 (SUB 1 (fun R =>
   (OP (.bin .neq) [v9, I 0] fun v12 =>
   (ITE v12
    (R [bb true])
    (OP (.bin .neq) [v11, I 0] fun v13 =>
    (ITE v13
     (R [bb true])
     (OP .len [v8] fun v14 =>
     (OP .len [v6] fun v15 =>
     (OP (.bin .geq) [v14, v15] fun v16 =>
     (R [v16]))))))))) fun v12 =>
 (ITE v12
  (Q [bb false])
  (LOOP 2 [v7, I 0] fun N0 v13 v14 =>
   (OP .len [v8] fun v15 =>
   (OP (.bin .lss) [v14, v15] fun v16 =>
   (ITE v16
    (CALL ρ 25 [v5, v6, v13] 3 fun v17 v18 v19 =>
    (OP (.bin .neq) [v19, I 0] fun v20 =>
    (ITE v20
     (Q [bb false])
     (OP (.un .not) [v18] fun v21 =>
     (ITE v21
      (Q [bb false])
      (OP (.idx 1) [v8, v14] fun v22 =>
      (OP (.bin .neq) [v17, v8.cellAt v22 0] fun v23 =>
      (ITE v23
       (Q [bb false])
       (CALL ρ 22 [v5, v17, v13] 1 fun v24 =>
       (OP (.un .not) [v24] fun v25 =>
       (ITE v25
        (Q [bb false])
        (CALL ρ 27 [v6, v17] 1 fun v26 =>
        (OP (.un .not) [v26] fun v27 =>
        (ITE v27
         (Q [bb false])
         (OP (.bin .add) [v14, I 1] fun v28 =>
         (N0 [v17, v28]))))))))))))))))
    (CALL ρ 25 [v5, v6, v13] 3 fun v17 v18 v19 =>
    (OP (.bin .eql) [v13, v10] fun v20 =>
    (ITE v20
     (OP (.bin .eql) [v19, I 0] fun v21 =>
     (ITE v21
      (OP (.un .not) [v18] fun v22 =>
      (ITE v22
       (CALL ρ 29 [] 1 fun v23 =>
       (Q [v23]))
       (Q [bb false])))
      (Q [bb false])))
     (Q [bb false]))))))))))))))))
def S_law11_RouteKnows (ρ : Fns) (v0 v1 v2 : PV) (Q : List PV → Prop) : Prop :=
 (CALL ρ 34 [v0, v1] 2 fun v3 v4 =>
 (CALL ρ 24 [v3, v4] 2 fun v5 v6 =>
 (OP (.bin .neq) [v6, I 0] fun v7 =>
 (ITE v7
  (Q [bb false])
  (OP .len [v3] fun v8 =>
  (OP (.bin .eql) [v8, I 1] fun v9 =>
  (ITE v9
   (CALL ρ 23 [v3, v4] 2 fun v10 v11 =>
   (OP .len [v5] fun v12 =>
   (OP (.bin .eql) [v12, I 0] fun v13 =>
   (ITE v13
    (OP (.bin .eql) [v11, I 7] fun v14 =>
    (ITE v14
     (CALL ρ 29 [] 1 fun v15 =>
     (Q [v15]))
     (Q [bb false])))
    (Q [bb false])))))
   (CALL ρ 23 [v3, v4] 2 fun v10 v11 =>
   (CALL ρ 35 [v4] 2 fun v12 v13 =>
   (CALL ρ 35 [v10] 2 fun v14 v15 =>
   (SUB 1 (fun R =>
     (OP (.bin .neq) [v11, I 0] fun v16 =>
     (ITE v16
      (R [bb true])
      (OP (.bin .neq) [v13, I 0] fun v17 =>
      (ITE v17
       (R [bb true])
       (OP (.bin .neq) [v15, I 0] fun v18 =>
       (ITE v18
        (R [bb true])
        (OP (.bin .eql) [v10, v4] fun v19 =>
        (ITE v19
         (R [bb true])
         (CALL ρ 27 [v3, v10] 1 fun v20 =>
         (OP (.un .not) [v20] fun v21 =>
         (R [v21])))))))))))) fun v16 =>
   (ITE v16
    (Q [bb false])
    (LOOP 1 [I 0] fun N0 v17 =>
     (OP .len [v3] fun v18 =>
     (OP (.bin .lss) [v17, v18] fun v19 =>
     (ITE v19
      (OP (.idx 1) [v3, v17] fun v20 =>
      (CALL ρ 35 [v3.cellAt v20 0] 2 fun v21 v22 =>
      (OP (.bin .neq) [v22, I 0] fun v23 =>
      (ITE v23
       (Q [bb false])
       (OP (.idx 1) [v3, v17] fun v24 =>
       (OP (.bin .neq) [v3.cellAt v24 0, v4] fun v25 =>
       (ITE v25
        (OP (.idx 1) [v3, v17] fun v26 =>
        (OP (.bin .neq) [v3.cellAt v26 0, v10] fun v27 =>
        (ITE v27
         (CALL ρ 36 [v14, v21, v12] 1 fun v28 =>
         (ITE v28
          (Q [bb false])
          (OP (.bin .add) [v17, I 1] fun v29 =>
          (N0 [v29]))))
         (OP (.bin .add) [v17, I 1] fun v28 =>
         (N0 [v28])))))
        (OP (.bin .add) [v17, I 1] fun v26 =>
        (N0 [v26])))))))))
      (OP (.conv .u64) [v2] fun v20 =>
      (OP (.bin .rem) [v20, (.int .u64 62)] fun v21 =>
      (OP (.conv .i64) [v21] fun v22 =>
      (CALL ρ 37 [v12, v22] 2 fun v23 v24 =>
      (OP (.idx 1) [v3, I 0] fun v25 =>
      (LOOP 2 [v3.cellAt v25 0, I 1] fun N1 v26 v27 =>
       (OP .len [v3] fun v28 =>
       (OP (.bin .lss) [v27, v28] fun v29 =>
       (ITE v29
        (OP (.idx 1) [v3, v27] fun v30 =>
        (CALL ρ 35 [v3.cellAt v30 0] 2 fun v31 v32 =>
        (CALL ρ 35 [v26] 2 fun v33 v34 =>
        (CALL ρ 38 [v23, v31] 2 fun v35 v36 =>
        (CALL ρ 38 [v23, v33] 2 fun v37 v38 =>
        (OP (.bin .neq) [v36, I 0] fun v39 =>
        (ITE v39
         (Q [bb false])
         (OP (.bin .neq) [v38, I 0] fun v40 =>
         (ITE v40
          (Q [bb false])
          (OP (.bin .lss) [v35, v37] fun v41 =>
          (ITE v41
           (OP (.idx 1) [v3, v27] fun v42 =>
           (OP (.bin .add) [v27, I 1] fun v43 =>
           (N1 [v3.cellAt v42 0, v43])))
           (OP (.bin .add) [v27, I 1] fun v42 =>
           (N1 [v26, v42])))))))))))))
        (OP (.bin .eql) [v26, v4] fun v30 =>
        (LOOP 2 [v30, I 0] fun N2 v31 v32 =>
         (OP .len [v5] fun v33 =>
         (OP (.bin .lss) [v32, v33] fun v34 =>
         (ITE v34
          (OP (.idx 1) [v5, v32] fun v35 =>
          (OP (.bin .eql) [v5.cellAt v35 0, v4] fun v36 =>
          (ITE v36
           (Q [bb false])
           (OP (.idx 1) [v5, v32] fun v37 =>
           (CALL ρ 27 [v3, v5.cellAt v37 0] 1 fun v38 =>
           (OP (.un .not) [v38] fun v39 =>
           (ITE v39
            (Q [bb false])
            (OP (.bin .gtr) [v32, I 0] fun v40 =>
            (ITE v40
             (OP (.idx 1) [v5, v32] fun v41 =>
             (OP (.bin .sub) [v32, I 1] fun v42 =>
             (OP (.idx 1) [v5, v42] fun v43 =>
             (OP (.bin .leq) [v5.cellAt v41 0, v5.cellAt v43 0] fun v44 =>
             (ITE v44
              (Q [bb false])
              (ITE v31
               (OP (.bin .add) [v32, I 1] fun v45 =>
               (N2 [bb true, v45]))
               (OP (.idx 1) [v5, v32] fun v45 =>
               (OP (.bin .eql) [v5.cellAt v45 0, v26] fun v46 =>
               (OP (.bin .add) [v32, I 1] fun v47 =>
               (N2 [v46, v47]))))))))))
             (ITE v31
              (OP (.bin .add) [v32, I 1] fun v41 =>
              (N2 [bb true, v41]))
              (OP (.idx 1) [v5, v32] fun v41 =>
              (OP (.bin .eql) [v5.cellAt v41 0, v26] fun v42 =>
              (OP (.bin .add) [v32, I 1] fun v43 =>
              (N2 [v42, v43]))))))))))))))
          (OP (.bin .eql) [v24, I 0] fun v35 =>
          (ITE v35
           (ITE v31
            (CALL ρ 29 [] 1 fun v36 =>
            (Q [v36]))
            (Q [bb false]))
           (Q [bb false])))))))))))))))))))))))))))))))))
def S_law11_RouteNext (ρ : Fns) (v0 v1 v2 : PV) (Q : List PV → Prop) : Prop :=
 (OP (.conv .u64) [v0] fun v3 =>
 (OP (.bin .rem) [v3, (.int .u64 4)] fun v4 =>
 (OP (.conv .i64) [v4] fun v5 =>
 (CALL ρ 34 [v1, v2] 2 fun v6 v7 =>
 (CALL ρ 25 [v5, v6, v7] 3 fun v8 v9 v10 =>
 (CALL ρ 39 [v5, v6] 2 fun v11 v12 =>
 (CALL ρ 24 [v6, v7] 2 fun v13 v14 =>
 (SUB 1 (fun R =>
   (OP (.bin .neq) [v10, I 0] fun v15 =>
   (ITE v15
    (R [bb true])
    (OP (.bin .neq) [v12, I 0] fun v16 =>
    (ITE v16
     (R [bb true])
     (OP (.bin .neq) [v14, I 0] fun v17 =>
     (ITE v17
      (R [bb true])
      (OP (.bin .neq) [v11, v7] fun v18 =>
      (OP (.beq true) [v9, v18] fun v19 =>
      (R [v19])))))))))) fun v15 =>
 (ITE v15
  (Q [bb false])
  (OP (.un .not) [v9] fun v16 =>
  (ITE v16
   (OP (.bin .eql) [v8, I 0] fun v17 =>
   (ITE v17
    (CALL ρ 29 [] 1 fun v18 =>
    (Q [v18]))
    (Q [bb false])))
   (CALL ρ 23 [v6, v7] 2 fun v17 v18 =>
   (OP (.rows 1) [v17] fun v19 =>
   (OP (.app 1 8) [v13, v19] fun v20 =>
   (LOOP 2 [bb false, I 0] fun N0 v21 v22 =>
    (OP .len [v20] fun v23 =>
    (OP (.bin .lss) [v22, v23] fun v24 =>
    (ITE v24
     (ITE v21
      (OP (.idx 1) [v20, v22] fun v25 =>
      (CALL ρ 22 [v5, v20.cellAt v25 0, v8] 1 fun v26 =>
      (ITE v26
       (Q [bb false])
       (OP (.bin .add) [v22, I 1] fun v27 =>
       (N0 [bb true, v27])))))
      (OP (.idx 1) [v20, v22] fun v25 =>
      (OP (.bin .eql) [v20.cellAt v25 0, v8] fun v26 =>
      (OP (.idx 1) [v20, v22] fun v27 =>
      (CALL ρ 22 [v5, v20.cellAt v27 0, v8] 1 fun v28 =>
      (ITE v28
       (Q [bb false])
       (OP (.bin .add) [v22, I 1] fun v29 =>
       (N0 [v26, v29]))))))))
     (OP (.bin .eql) [v18, I 0] fun v25 =>
     (ITE v25
      (ITE v21
       (CALL ρ 22 [v5, v8, v7] 1 fun v26 =>
       (ITE v26
        (CALL ρ 29 [] 1 fun v27 =>
        (Q [v27]))
        (Q [bb false])))
       (Q [bb false]))
      (Q [bb false])))))))))))))))))))))
def S_law11_RouteLess (ρ : Fns) (v0 v1 v2 : PV) (Q : List PV → Prop) : Prop :=
 (OP (.conv .u64) [v0] fun v3 =>
 (OP (.bin .rem) [v3, (.int .u64 4)] fun v4 =>
 (OP (.conv .i64) [v4] fun v5 =>
 (CALL ρ 34 [v1, v2] 2 fun v6 v7 =>
 (CALL ρ 39 [v5, v6] 2 fun v8 v9 =>
 (SUB 1 (fun R =>
   (OP (.bin .neq) [v9, I 0] fun v10 =>
   (ITE v10
    (R [bb true])
    (OP (.bin .eql) [v8, v7] fun v11 =>
    (R [v11]))))) fun v10 =>
 (ITE v10
  (OP (.bin .eql) [v9, I 0] fun v11 =>
  (ITE v11
   (CALL ρ 29 [] 1 fun v12 =>
   (Q [v12]))
   (Q [bb false])))
  (LOOP 2 [I 0, .list []] fun N0 v11 v12 =>
   (OP .len [v6] fun v13 =>
   (OP (.bin .lss) [v11, v13] fun v14 =>
   (ITE v14
    (OP (.idx 1) [v6, v11] fun v15 =>
    (OP (.bin .neq) [v6.cellAt v15 0, v8] fun v16 =>
    (ITE v16
     (OP (.idx 1) [v6, v11] fun v17 =>
     (OP (.rows 1) [v6.cellAt v17 0] fun v18 =>
     (OP (.app 1 8) [v12, v18] fun v19 =>
     (OP (.bin .add) [v11, I 1] fun v20 =>
     (N0 [v20, v19])))))
     (OP (.bin .add) [v11, I 1] fun v17 =>
     (N0 [v17, v12])))))
    (CALL ρ 39 [v5, v12] 2 fun v15 v16 =>
    (CALL ρ 26 [v5, v12, v7] 2 fun v17 v18 =>
    (CALL ρ 26 [v5, v6, v7] 2 fun v19 v20 =>
    (SUB 1 (fun R =>
      (OP (.bin .neq) [v16, I 0] fun v21 =>
      (ITE v21
       (R [bb true])
       (OP (.bin .neq) [v18, I 0] fun v22 =>
       (ITE v22
        (R [bb true])
        (OP (.bin .neq) [v20, I 0] fun v23 =>
        (ITE v23
         (R [bb true])
         (OP .len [v19] fun v24 =>
         (OP (.bin .eql) [v24, I 0] fun v25 =>
         (ITE v25
          (R [bb true])
          (OP .len [v19] fun v26 =>
          (OP (.bin .sub) [v26, I 1] fun v27 =>
          (OP (.idx 1) [v19, v27] fun v28 =>
          (OP (.bin .neq) [v19.cellAt v28 0, v8] fun v29 =>
          (ITE v29
           (R [bb true])
           (OP (.bin .eql) [v15, v8] fun v30 =>
           (R [v30]))))))))))))))))) fun v21 =>
    (ITE v21
     (Q [bb false])
     (OP (.bin .eql) [v15, v7] fun v22 =>
     (ITE v22
      (OP .len [v17] fun v23 =>
      (OP (.bin .eql) [v23, I 0] fun v24 =>
      (ITE v24
       (CALL ρ 29 [] 1 fun v25 =>
       (Q [v25]))
       (Q [bb false]))))
      (OP .len [v17] fun v23 =>
      (OP (.bin .gtr) [v23, I 0] fun v24 =>
      (ITE v24
       (OP .len [v17] fun v25 =>
       (OP (.bin .sub) [v25, I 1] fun v26 =>
       (OP (.idx 1) [v17, v26] fun v27 =>
       (OP (.bin .eql) [v17.cellAt v27 0, v15] fun v28 =>
       (ITE v28
        (CALL ρ 22 [v5, v8, v15] 1 fun v29 =>
        (ITE v29
         (CALL ρ 29 [] 1 fun v30 =>
         (Q [v30]))
         (Q [bb false])))
        (Q [bb false]))))))
       (Q [bb false]))))))))))))))))))))))
def S_law11_RouteSteps (ρ : Fns) (v0 v1 v2 v3 : PV) (Q : List PV → Prop) : Prop :=
 (OP (.conv .u64) [v0] fun v4 =>
 (OP (.bin .rem) [v4, (.int .u64 4)] fun v5 =>
 (OP (.conv .i64) [v5] fun v6 =>
 (CALL ρ 34 [v1, v2] 2 fun v7 v8 =>
 (CALL ρ 26 [v6, v7, v8] 2 fun v9 v10 =>
 (OP (.bin .neq) [v10, I 0] fun v11 =>
 (ITE v11
  (Q [bb false])
  (OP .len [v9] fun v12 =>
  (OP (.bin .eql) [v12, I 0] fun v13 =>
  (ITE v13
   (CALL ρ 25 [v6, v7, v8] 3 fun v14 v15 v16 =>
   (OP (.un .not) [v15] fun v17 =>
   (ITE v17
    (OP (.bin .eql) [v16, I 0] fun v18 =>
    (ITE v18
     (CALL ρ 29 [] 1 fun v19 =>
     (Q [v19]))
     (Q [bb false])))
    (Q [bb false]))))
   (OP (.conv .u64) [v3] fun v14 =>
   (OP .len [v9] fun v15 =>
   (OP (.conv .u64) [v15] fun v16 =>
   (OP (.bin .rem) [v14, v16] fun v17 =>
   (OP (.conv .i64) [v17] fun v18 =>
   (OP (.idx 1) [v9, v18] fun v19 =>
   (CALL ρ 26 [v6, v7, v9.cellAt v19 0] 2 fun v20 v21 =>
   (OP (.bin .eql) [v21, I 0] fun v22 =>
   (ITE v22
    (OP (.bin .add) [v18, I 1] fun v23 =>
    (OP (.slice 1 true false) [v9, v23] fun v24 =>
    (CALL ρ 16 [v20, v24] 1 fun v25 =>
    (ITE v25
     (CALL ρ 29 [] 1 fun v26 =>
     (Q [v26]))
     (Q [bb false])))))
    (Q [bb false]))))))))))))))))))))
def S_law12_PathRoute (ρ : Fns) (v0 v1 v2 v3 : PV) (Q : List PV → Prop) : Prop :=
 (OP (.conv .u64) [v0] fun v4 =>
 (OP (.bin .rem) [v4, (.int .u64 4)] fun v5 =>
 (OP (.conv .i64) [v5] fun v6 =>
 (OP (.conv .u64) [v3] fun v7 =>
 (OP (.bin .rem) [v7, (.int .u64 8)] fun v8 =>
 (OP (.conv .i64) [v8] fun v9 =>
 (OP (.bin .add) [I 1, v9] fun v10 =>
 (CALL ρ 34 [v1, v2] 2 fun v11 v12 =>
 (CALL ρ 26 [v6, v11, v12] 2 fun v13 v14 =>
 (OP (.bin .neq) [v14, I 0] fun v15 =>
 (ITE v15
  (Q [bb false])
  (OP .len [v13] fun v16 =>
  (OP (.bin .gtr) [v16, v10] fun v17 =>
  (SUB 1 (fun R =>
    (ITE v17
     (R [I 12])
     (R [I 0]))) fun v18 =>
  (SUB 1 (fun R =>
    (CALL ρ 20 [v6, v12, v13, v10] 1 fun v19 =>
    (OP (.bin .neq) [v19, v18] fun v20 =>
    (ITE v20
     (R [bb true])
     (CALL ρ 20 [v6, v12, v13, I 8] 1 fun v21 =>
     (OP (.bin .neq) [v21, I 0] fun v22 =>
     (R [v22]))))))) fun v19 =>
  (ITE v19
   (Q [bb false])
   (LOOP 1 [I 0] fun N0 v20 =>
    (OP .len [v13] fun v21 =>
    (OP (.bin .lss) [v20, v21] fun v22 =>
    (ITE v22
     (OP (.idx 1) [v13, v20] fun v23 =>
     (OP (.bin .add) [v20, I 1] fun v24 =>
     (OP (.slice 1 true false) [v13, v24] fun v25 =>
     (CALL ρ 20 [v6, v13.cellAt v23 0, v25, I 8] 1 fun v26 =>
     (OP (.bin .neq) [v26, I 0] fun v27 =>
     (ITE v27
      (Q [bb false])
      (OP (.idx 1) [v13, v20] fun v28 =>
      (OP (.bin .add) [v20, I 1] fun v29 =>
      (OP (.slice 1 true false) [v13, v29] fun v30 =>
      (CALL ρ 13 [v6, v13.cellAt v28 0, v30] 2 fun v31 v32 =>
      (OP (.bin .neq) [v32, I 0] fun v33 =>
      (ITE v33
       (Q [bb false])
       (OP (.slice 1 true false) [v13, v20] fun v34 =>
       (CALL ρ 16 [v31, v34] 1 fun v35 =>
       (OP (.un .not) [v35] fun v36 =>
       (ITE v36
        (Q [bb false])
        (OP (.idx 1) [v13, v20] fun v37 =>
        (OP (.rows 1) [v12] fun v38 =>
        (CALL ρ 20 [v6, v13.cellAt v37 0, v38, I 8] 1 fun v39 =>
        (OP (.bin .neq) [v39, I 1] fun v40 =>
        (ITE v40
         (Q [bb false])
         (OP (.bin .add) [v20, I 1] fun v41 =>
         (N0 [v41])))))))))))))))))))))))
     (CALL ρ 21 [] 1 fun v23 =>
     (Q [v23]))))))))))))))))))))))
end Go.Xt
