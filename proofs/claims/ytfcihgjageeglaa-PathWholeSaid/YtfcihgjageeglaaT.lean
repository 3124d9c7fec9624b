/- The terms. -/
import Derived.Test.YtfcihgjageeglaaV2
set_option maxRecDepth 100000
set_option linter.unusedVariables false
namespace Go.Xt
def S_ring_Is (ρ : Fns) (v0 : PV) (Q : List PV → Prop) : Prop :=
 (OP (.bin .geq) [v0, I 0] fun v1 =>
 (ITE v1
  (OP (.bin .lss) [v0, I 8] fun v2 =>
  (Q [v2]))
  (Q [bb false])))
def S_ring_Node (ρ : Fns) (v0 : PV) (Q : List PV → Prop) : Prop :=
 (CALL ρ 52 [v0] 1 fun v1 =>
 (OP (.un .not) [v1] fun v2 =>
 (ITE v2
  (Q [I 0, I 1])
  (OP .pickA [v0, I 2342812313538366385, I 1863050908023769503, I 81111313352671826, I 2434324899588211290, I 2454816673080883147, I 1342378062264523301, I 820659310660760249, I 2006264061484817761] fun v3 =>
  (Q [v3, I 0])))))
def S_ring_Topic (ρ : Fns) (v0 : PV) (Q : List PV → Prop) : Prop :=
 (OP (.bin .geq) [v0, I 0] fun v1 =>
 (ITE v1
  (OP (.bin .lss) [v0, I 4] fun v2 =>
  (OP (.un .not) [v2] fun v3 =>
  (ITE v3
   (Q [I 0, I 1])
   (OP .pickA [v0, I 1462484242049070477, I 1775212608919665246, I 3535639072113518480, I 3725500155902745375] fun v4 =>
   (Q [v4, I 0])))))
  (OP (.un .not) [bb false] fun v2 =>
  (ITE v2
   (Q [I 0, I 1])
   (OP .pickA [v0, I 1462484242049070477, I 1775212608919665246, I 3535639072113518480, I 3725500155902745375] fun v3 =>
   (Q [v3, I 0]))))))
def S_key_Far (ρ : Fns) (v0 v1 : PV) (Q : List PV → Prop) : Prop :=
 (OP (.bin .sub) [v1, v0] fun v2 =>
 (OP (.bin .lss) [v2, I 0] fun v3 =>
 (ITE v3
  (OP (.bin .add) [v2, I 4611686018427387904] fun v4 =>
  (Q [v4]))
  (Q [v2]))))
def S_ref01_Node (ρ : Fns) (v0 : PV) (Q : List PV → Prop) : Prop :=
 (OP (.rows 1) [I 2342812313538366385, I 1863050908023769503, I 81111313352671826, I 2434324899588211290, I 2454816673080883147, I 1342378062264523301, I 820659310660760249, I 2006264061484817761] fun v1 =>
 (OP (.idx 1) [v1, v0] fun v2 =>
 (Q [v1.cellAt v2 0])))
def S_ref01_Topic (ρ : Fns) (v0 : PV) (Q : List PV → Prop) : Prop :=
 (OP (.rows 1) [I 1462484242049070477, I 1775212608919665246, I 3535639072113518480, I 3725500155902745375] fun v1 =>
 (OP (.idx 1) [v1, v0] fun v2 =>
 (Q [v1.cellAt v2 0])))
def S_ref01_Behind (ρ : Fns) (v0 v1 : PV) (Q : List PV → Prop) : Prop :=
 (OP (.bin .geq) [v1, v0] fun v2 =>
 (ITE v2
  (OP (.bin .sub) [v1, v0] fun v3 =>
  (Q [v3]))
  (OP (.bin .sub) [v0, v1] fun v3 =>
  (OP (.bin .sub) [I 4611686018427387904, v3] fun v4 =>
  (Q [v4])))))
def S_ring_Gap (ρ : Fns) (v0 v1 : PV) (Q : List PV → Prop) : Prop :=
 (CALL ρ 61 [v0] 2 fun v2 v3 =>
 (OP (.bin .neq) [v3, I 0] fun v4 =>
 (ITE v4
  (Q [I 0, v3])
  (CALL ρ 35 [v1] 2 fun v5 v6 =>
  (OP (.bin .neq) [v6, I 0] fun v7 =>
  (ITE v7
   (Q [I 0, v6])
   (CALL ρ 60 [v2, v5] 1 fun v8 =>
   (Q [v8, I 0]))))))))
def S_ring_Nearer (ρ : Fns) (v0 v1 v2 : PV) (Q : List PV → Prop) : Prop :=
 (CALL ρ 46 [v0, v1] 2 fun v3 v4 =>
 (CALL ρ 46 [v0, v2] 2 fun v5 v6 =>
 (OP (.bin .eql) [v4, I 0] fun v7 =>
 (ITE v7
  (OP (.bin .eql) [v6, I 0] fun v8 =>
  (ITE v8
   (OP (.bin .lss) [v3, v5] fun v9 =>
   (Q [v9]))
   (Q [bb false])))
  (Q [bb false])))))
def S_ref01_IsTopic (ρ : Fns) (v0 : PV) (Q : List PV → Prop) : Prop :=
 (OP (.bin .geq) [v0, I 0] fun v1 =>
 (ITE v1
  (OP (.bin .leq) [v0, I 3] fun v2 =>
  (Q [v2]))
  (Q [bb false])))
def S_ref01_IsNode (ρ : Fns) (v0 : PV) (Q : List PV → Prop) : Prop :=
 (OP (.bin .geq) [v0, I 0] fun v1 =>
 (ITE v1
  (OP (.bin .leq) [v0, I 7] fun v2 =>
  (Q [v2]))
  (Q [bb false])))
def S_ref01_Gap (ρ : Fns) (v0 v1 : PV) (Q : List PV → Prop) : Prop :=
 (CALL ρ 73 [v0] 1 fun v2 =>
 (CALL ρ 54 [v1] 1 fun v3 =>
 (CALL ρ 55 [v2, v3] 1 fun v4 =>
 (Q [v4]))))
def S_ref01_Nearer (ρ : Fns) (v0 v1 v2 : PV) (Q : List PV → Prop) : Prop :=
 (CALL ρ 17 [v0] 1 fun v3 =>
 (ITE v3
  (CALL ρ 18 [v1] 1 fun v4 =>
  (ITE v4
   (CALL ρ 18 [v2] 1 fun v5 =>
   (ITE v5
    (CALL ρ 65 [v0, v1] 1 fun v6 =>
    (CALL ρ 65 [v0, v2] 1 fun v7 =>
    (OP (.bin .lss) [v6, v7] fun v8 =>
    (Q [v8]))))
    (Q [bb false])))
   (Q [bb false])))
  (Q [bb false])))
def S_ring_All (ρ : Fns) (v0 : PV) (Q : List PV → Prop) : Prop :=
 (OP .len [v0] fun v1 =>
 (LOOP 1 [I 0] fun N0 v2 =>
  (OP (.bin .lss) [v2, v1] fun v3 =>
  (ITE v3
   (OP (.idx 1) [v0, v2] fun v4 =>
   (CALL ρ 52 [v0.cellAt v4 0] 1 fun v5 =>
   (OP (.un .not) [v5] fun v6 =>
   (ITE v6
    (OP (.bin .geq) [v2, I 0] fun v7 =>
    (OP (.un .not) [v7] fun v8 =>
    (Q [v8])))
    (OP (.bin .add) [v2, I 1] fun v7 =>
    (N0 [v7]))))))
   (OP (.bin .geq) [I (-1), I 0] fun v4 =>
   (OP (.un .not) [v4] fun v5 =>
   (Q [v5])))))))
def S_path_rises (ρ : Fns) (v0 v1 v2 : PV) (Q : List PV → Prop) : Prop :=
 (OP .len [v2] fun v3 =>
 (LOOP 2 [v1, I 0] fun N0 v4 v5 =>
  (OP (.bin .lss) [v5, v3] fun v6 =>
  (ITE v6
   (OP (.idx 1) [v2, v5] fun v7 =>
   (CALL ρ 22 [v0, v2.cellAt v7 0, v4] 1 fun v8 =>
   (OP (.un .not) [v8] fun v9 =>
   (ITE v9
    (Q [bb false])
    (OP (.bin .add) [v5, I 1] fun v10 =>
    (N0 [v2.cellAt v7 0, v10]))))))
   (Q [bb true])))))
def S_path_Check (ρ : Fns) (v0 v1 v2 v3 : PV) (Q : List PV → Prop) : Prop :=
 (CALL ρ 46 [v0, v1] 2 fun v4 v5 =>
 (SUB 1 (fun R =>
   (OP (.bin .neq) [v5, I 0] fun v6 =>
   (ITE v6
    (R [bb true])
    (OP (.bin .lss) [v3, I 1] fun v7 =>
    (ITE v7
     (R [bb true])
     (OP (.bin .gtr) [v3, I 8] fun v8 =>
     (ITE v8
      (R [bb true])
      (CALL ρ 42 [v2] 1 fun v9 =>
      (OP (.un .not) [v9] fun v10 =>
      (R [v10])))))))))) fun v6 =>
 (ITE v6
  (Q [I 1])
  (OP .len [v2] fun v7 =>
  (OP (.bin .gtr) [v7, v3] fun v8 =>
  (ITE v8
   (Q [I 12])
   (CALL ρ 47 [v0, v1, v2] 1 fun v9 =>
   (OP (.un .not) [v9] fun v10 =>
   (ITE v10
    (Q [I 1])
    (Q [I 0]))))))))))
def S_path_Add (ρ : Fns) (v0 v1 v2 : PV) (Q : List PV → Prop) : Prop :=
 (CALL ρ 20 [v0, v1, v2, I 8] 1 fun v3 =>
 (SUB 1 (fun R =>
   (OP (.bin .eql) [v3, I 0] fun v4 =>
   (ITE v4
    (OP .len [v2] fun v5 =>
    (OP (.bin .geq) [v5, I 8] fun v6 =>
    (R [v6])))
    (R [bb false])))) fun v4 =>
 (ITE v4
  (OP (.bin .neq) [I 12, I 0] fun v5 =>
  (ITE v5
   (Q [.list [], I 12])
   (OP (.rows 1) [v1] fun v6 =>
   (OP (.app 1 8) [v6, v2] fun v7 =>
   (Q [v7, I 0])))))
  (OP (.bin .neq) [v3, I 0] fun v5 =>
  (ITE v5
   (Q [.list [], v3])
   (OP (.rows 1) [v1] fun v6 =>
   (OP (.app 1 8) [v6, v2] fun v7 =>
   (Q [v7, I 0]))))))))
def S_path_parent (ρ : Fns) (v0 v1 : PV) (Q : List PV → Prop) : Prop :=
 (OP .len [v0] fun v2 =>
 (OP (.bin .geq) [v1, v2] fun v3 =>
 (ITE v3
  (Q [I (-1)])
  (OP (.idx 1) [v0, v1] fun v4 =>
  (OP .len [v0.cellAt v4 0] fun v5 =>
  (OP (.bin .eql) [v5, I 0] fun v6 =>
  (ITE v6
   (Q [I (-1)])
   (OP (.idx 1) [v0, v1] fun v7 =>
   (OP (.idx 1) [v0.cellAt v7 0, I 0] fun v8 =>
   (Q [(v0.cellAt v7 0).cellAt v8 0]))))))))))
def S_path_Whole (ρ : Fns) (v0 v1 : PV) (Q : List PV → Prop) : Prop :=
 (SUB 1 (fun R =>
   (OP .len [v1] fun v2 =>
   (OP (.bin .gtr) [v2, I 8] fun v3 =>
   (ITE v3
    (R [bb true])
    (OP .len [v1] fun v4 =>
    (LOOP 1 [I 0] fun N0 v5 =>
     (OP (.bin .lss) [v5, v4] fun v6 =>
     (ITE v6
      (OP (.idx 1) [v1, v5] fun v7 =>
      (CALL ρ 42 [v1.cellAt v7 0] 1 fun v8 =>
      (OP (.un .not) [v8] fun v9 =>
      (ITE v9
       (OP (.bin .geq) [v5, I 0] fun v10 =>
       (OP .sel [v3, bb true, v10] fun v11 =>
       (R [v11])))
       (OP (.bin .add) [v5, I 1] fun v10 =>
       (N0 [v10]))))))
      (OP (.bin .geq) [I (-1), I 0] fun v7 =>
      (OP .sel [v3, bb true, v7] fun v8 =>
      (R [v8]))))))))))) fun v2 =>
 (ITE v2
  (Q [bb false])
  (OP .len [v1] fun v3 =>
  (LOOP 1 [I 0] fun N0 v4 =>
   (OP (.bin .lss) [v4, v3] fun v5 =>
   (ITE v5
    (CALL ρ 43 [v1, v4] 1 fun v6 =>
    (LOOP 2 [v6, I 0] fun N1 v7 v8 =>
     (OP (.bin .lss) [v8, I 8] fun v9 =>
     (ITE v9
      (OP (.bin .geq) [v7, I 0] fun v10 =>
      (ITE v10
       (CALL ρ 43 [v1, v7] 1 fun v11 =>
       (OP (.bin .add) [v8, I 1] fun v12 =>
       (N1 [v11, v12])))
       (OP (.bin .add) [v8, I 1] fun v11 =>
       (N1 [v7, v11]))))
      (OP (.bin .geq) [v7, I 0] fun v10 =>
      (ITE v10
       (Q [bb false])
       (OP (.bin .add) [v4, I 1] fun v11 =>
       (N0 [v11]))))))))
    (Q [bb true])))))))
def S_bkeep_TwinInts (ρ : Fns) (v0 : PV) (Q : List PV → Prop) : Prop :=
 (OP (.app 1 8) [.list [], v0] fun v1 =>
 (Q [v1]))
def S_bkeep_Ints (ρ : Fns) (v0 v1 : PV) (Q : List PV → Prop) : Prop :=
 (OP .len [v0] fun v2 =>
 (OP .len [v1] fun v3 =>
 (OP (.bin .neq) [v2, v3] fun v4 =>
 (ITE v4
  (Q [bb false])
  (LOOP 1 [I 0] fun N0 v5 =>
   (OP .len [v0] fun v6 =>
   (OP (.bin .lss) [v5, v6] fun v7 =>
   (ITE v7
    (OP (.idx 1) [v0, v5] fun v8 =>
    (OP (.idx 1) [v1, v5] fun v9 =>
    (OP (.bin .neq) [v0.cellAt v8 0, v1.cellAt v9 0] fun v10 =>
    (ITE v10
     (Q [bb false])
     (OP (.bin .add) [v5, I 1] fun v11 =>
     (N0 [v11]))))))
    (Q [bb true])))))))))
def S_ref10_Path (ρ : Fns) (v0 v1 v2 v3 : PV) (Q : List PV → Prop) : Prop :=
 (LOOP 1 [I 0] fun N0 v4 =>
  (OP .len [v2] fun v5 =>
  (OP (.bin .lss) [v4, v5] fun v6 =>
  (ITE v6
   (OP (.idx 1) [v2, v4] fun v7 =>
   (CALL ρ 18 [v2.cellAt v7 0] 1 fun v8 =>
   (OP (.un .not) [v8] fun v9 =>
   (ITE v9
    (Q [I 1])
    (OP (.bin .add) [v4, I 1] fun v10 =>
    (N0 [v10]))))))
   (OP .len [v2] fun v7 =>
   (OP (.bin .gtr) [v7, v3] fun v8 =>
   (ITE v8
    (Q [I 12])
    (LOOP 2 [v1, I 0] fun N1 v9 v10 =>
     (OP .len [v2] fun v11 =>
     (OP (.bin .lss) [v10, v11] fun v12 =>
     (ITE v12
      (OP (.idx 1) [v2, v10] fun v13 =>
      (CALL ρ 45 [v0, v2.cellAt v13 0, v9] 1 fun v14 =>
      (OP (.un .not) [v14] fun v15 =>
      (ITE v15
       (Q [I 1])
       (OP (.idx 1) [v2, v10] fun v16 =>
       (OP (.bin .add) [v10, I 1] fun v17 =>
       (N1 [v2.cellAt v16 0, v17])))))))
      (Q [I 0]))))))))))))
def S_ref10_Whole (ρ : Fns) (v0 : PV) (Q : List PV → Prop) : Prop :=
 (OP .len [v0] fun v1 =>
 (OP (.bin .gtr) [v1, I 8] fun v2 =>
 (ITE v2
  (Q [bb false])
  (LOOP 1 [I 0] fun N0 v3 =>
   (OP .len [v0] fun v4 =>
   (OP (.bin .lss) [v3, v4] fun v5 =>
   (ITE v5
    (LOOP 1 [I 0] fun N1 v6 =>
     (OP (.idx 1) [v0, v3] fun v7 =>
     (OP .len [v0.cellAt v7 0] fun v8 =>
     (OP (.bin .lss) [v6, v8] fun v9 =>
     (ITE v9
      (OP (.idx 1) [v0, v3] fun v10 =>
      (OP (.idx 1) [v0.cellAt v10 0, v6] fun v11 =>
      (CALL ρ 18 [(v0.cellAt v10 0).cellAt v11 0] 1 fun v12 =>
      (OP (.un .not) [v12] fun v13 =>
      (ITE v13
       (Q [bb false])
       (OP (.bin .add) [v6, I 1] fun v14 =>
       (N1 [v14])))))))
      (OP (.bin .add) [v3, I 1] fun v10 =>
      (N0 [v10])))))))
    (LOOP 1 [I 0] fun N1 v6 =>
     (OP .len [v0] fun v7 =>
     (OP (.bin .lss) [v6, v7] fun v8 =>
     (ITE v8
      (LOOP 2 [v6, I 0] fun N2 v9 v10 =>
       (SUB 1 (fun R =>
         (OP .len [v0] fun v11 =>
         (OP (.bin .lss) [v9, v11] fun v12 =>
         (ITE v12
          (OP (.idx 1) [v0, v9] fun v13 =>
          (OP .len [v0.cellAt v13 0] fun v14 =>
          (OP (.bin .gtr) [v14, I 0] fun v15 =>
          (R [v15]))))
          (R [bb false]))))) fun v11 =>
       (ITE v11
        (OP .len [v0] fun v12 =>
        (OP (.bin .gtr) [v10, v12] fun v13 =>
        (ITE v13
         (Q [bb false])
         (OP (.idx 1) [v0, v9] fun v14 =>
         (OP (.idx 1) [v0.cellAt v14 0, I 0] fun v15 =>
         (OP (.bin .add) [v10, I 1] fun v16 =>
         (N2 [(v0.cellAt v14 0).cellAt v15 0, v16])))))))
        (OP (.bin .add) [v6, I 1] fun v12 =>
        (N1 [v12])))))
      (Q [bb true]))))))))))))
def S_law12_wakes (ρ : Fns) (Q : List PV → Prop) : Prop :=
 (CALL ρ 13 [I 0, I 3, L (α := Int) []] 2 fun v0 v1 =>
 (CALL ρ 20 [I 0, I 1, L (α := Int) [], I 4] 1 fun v2 =>
 (OP (.bin .eql) [v2, I 0] fun v3 =>
 (ITE v3
  (OP (.bin .eql) [v1, I 0] fun v4 =>
  (ITE v4
   (OP (.rows 1) [I 3] fun v5 =>
   (CALL ρ 16 [v0, v5] 1 fun v6 =>
   (ITE v6
    (OP (.rows 1) [I 0] fun v7 =>
    (OP (.rows 1) [.list [], v7] fun v8 =>
    (CALL ρ 14 [I 0, v8] 1 fun v9 =>
    (ITE v9
     (OP (.rows 1) [I 1] fun v10 =>
     (OP (.rows 1) [I 0] fun v11 =>
     (OP (.rows 1) [v10, v11] fun v12 =>
     (CALL ρ 14 [I 0, v12] 1 fun v13 =>
     (OP (.un .not) [v13] fun v14 =>
     (ITE v14
      (CALL ρ 20 [I 9, I 0, L (α := Int) [], I 1] 1 fun v15 =>
      (OP (.bin .eql) [v15, I 1] fun v16 =>
      (Q [v16])))
      (Q [bb false])))))))
     (Q [bb false])))))
    (Q [bb false]))))
   (Q [bb false])))
  (Q [bb false])))))
def S_law12_PathExact (ρ : Fns) (v0 v1 v2 v3 v4 : PV) (Q : List PV → Prop) : Prop :=
 (SUB 1 (fun R =>
   (OP .len [v2] fun v5 =>
   (OP (.bin .gtr) [v5, I 30] fun v6 =>
   (ITE v6
    (R [bb true])
    (OP .len [v4] fun v7 =>
    (OP (.bin .gtr) [v7, I 20] fun v8 =>
    (R [v8]))))))) fun v5 =>
 (ITE v5
  (Q [bb true])
  (LOOP 1 [I 0] fun N0 v6 =>
   (OP .len [v4] fun v7 =>
   (OP (.bin .lss) [v6, v7] fun v8 =>
   (ITE v8
    (OP (.idx 1) [v4, v6] fun v9 =>
    (OP .len [v4.cellAt v9 0] fun v10 =>
    (OP (.bin .gtr) [v10, I 20] fun v11 =>
    (ITE v11
     (Q [bb true])
     (OP (.bin .add) [v6, I 1] fun v12 =>
     (N0 [v12]))))))
    (CALL ρ 12 [v2] 1 fun v9 =>
    (CALL ρ 13 [v0, v1, v9] 2 fun v10 v11 =>
    (SUB 1 (fun R =>
      (CALL ρ 14 [v0, v4] 1 fun v12 =>
      (CALL ρ 15 [v4] 1 fun v13 =>
      (OP (.beq true) [v12, v13] fun v14 =>
      (ITE v14
       (R [bb true])
       (CALL ρ 16 [v9, v2] 1 fun v15 =>
       (OP (.un .not) [v15] fun v16 =>
       (R [v16])))))))) fun v12 =>
    (ITE v12
     (Q [bb false])
     (SUB 1 (fun R =>
       (CALL ρ 17 [v0] 1 fun v13 =>
       (ITE v13
        (CALL ρ 18 [v1] 1 fun v14 =>
        (R [v14]))
        (R [bb false])))) fun v13 =>
     (SUB 2 (fun R =>
       (ITE v13
        (CALL ρ 19 [v0, v1, v2, I 8] 1 fun v14 =>
        (SUB 1 (fun R =>
          (OP (.bin .eql) [v14, I 0] fun v15 =>
          (ITE v15
           (OP .len [v2] fun v16 =>
           (OP (.bin .geq) [v16, I 8] fun v17 =>
           (R [v17])))
           (R [bb false])))) fun v15 =>
        (ITE v15
         (OP (.bin .geq) [v3, I 1] fun v16 =>
         (ITE v16
          (OP (.bin .leq) [v3, I 8] fun v17 =>
          (ITE v17
           (CALL ρ 19 [v0, v1, v2, v3] 1 fun v18 =>
           (R [v18, I 12]))
           (R [I 1, I 12])))
          (R [I 1, I 12])))
         (OP (.bin .geq) [v3, I 1] fun v16 =>
         (ITE v16
          (OP (.bin .leq) [v3, I 8] fun v17 =>
          (ITE v17
           (CALL ρ 19 [v0, v1, v2, v3] 1 fun v18 =>
           (R [v18, v14]))
           (R [I 1, v14])))
          (R [I 1, v14]))))))
        (R [I 1, I 1]))) fun v14 v15 =>
     (SUB 1 (fun R =>
       (CALL ρ 20 [v0, v1, v9, v3] 1 fun v16 =>
       (OP (.bin .neq) [v16, v14] fun v17 =>
       (ITE v17
        (R [bb true])
        (OP (.bin .neq) [v11, v15] fun v18 =>
        (R [v18])))))) fun v16 =>
     (ITE v16
      (Q [bb false])
      (OP (.bin .neq) [v15, I 0] fun v17 =>
      (ITE v17
       (OP .len [v10] fun v18 =>
       (OP (.bin .eql) [v18, I 0] fun v19 =>
       (ITE v19
        (CALL ρ 21 [] 1 fun v20 =>
        (Q [v20]))
        (Q [bb false]))))
       (OP (.rows 1) [v1] fun v18 =>
       (OP (.app 1 8) [v18, v2] fun v19 =>
       (CALL ρ 16 [v10, v19] 1 fun v20 =>
       (ITE v20
        (CALL ρ 21 [] 1 fun v21 =>
        (Q [v21]))
        (Q [bb false])))))))))))))))))))))
def S_law12_PathWhole (ρ : Fns) (v0 v1 : PV) (Q : List PV → Prop) : Prop :=
 (OP .len [v1] fun v2 =>
 (OP (.bin .gtr) [v2, I 8] fun v3 =>
 (ITE v3
  (Q [bb true])
  (OP (.conv .u64) [v0] fun v4 =>
  (OP (.bin .rem) [v4, (.int .u64 4)] fun v5 =>
  (OP (.conv .i64) [v5] fun v6 =>
  (LOOP 2 [I 0, .list []] fun N0 v7 v8 =>
   (OP .len [v1] fun v9 =>
   (OP (.bin .lss) [v7, v9] fun v10 =>
   (ITE v10
    (LOOP 3 [v7, I 0, .list []] fun N1 v11 v12 v13 =>
     (SUB 1 (fun R =>
       (OP (.idx 1) [v1, v7] fun v14 =>
       (OP .len [v1.cellAt v14 0] fun v15 =>
       (OP (.bin .lss) [v12, v15] fun v16 =>
       (ITE v16
        (OP (.bin .lss) [v12, I 40] fun v17 =>
        (ITE v17
         (OP .len [v13] fun v18 =>
         (OP (.bin .lss) [v18, I 8] fun v19 =>
         (R [v19])))
         (R [bb false])))
        (R [bb false])))))) fun v14 =>
     (ITE v14
      (OP (.idx 1) [v1, v7] fun v15 =>
      (OP (.idx 1) [v1.cellAt v15 0, v12] fun v16 =>
      (OP (.conv .u64) [(v1.cellAt v15 0).cellAt v16 0] fun v17 =>
      (OP (.bin .rem) [v17, (.int .u64 8)] fun v18 =>
      (OP (.conv .i64) [v18] fun v19 =>
      (CALL ρ 22 [v6, v19, v11] 1 fun v20 =>
      (ITE v20
       (OP (.rows 1) [v19] fun v21 =>
       (OP (.app 1 8) [v13, v21] fun v22 =>
       (OP (.bin .add) [v12, I 1] fun v23 =>
       (N1 [v19, v23, v22]))))
       (OP (.bin .add) [v12, I 1] fun v21 =>
       (N1 [v11, v21, v13])))))))))
      (CALL ρ 20 [v6, v7, v13, I 8] 1 fun v15 =>
      (OP (.bin .neq) [v15, I 0] fun v16 =>
      (ITE v16
       (Q [bb false])
       (OP (.rows 1) [v13] fun v17 =>
       (OP (.app 1 24) [v8, v17] fun v18 =>
       (OP (.bin .add) [v7, I 1] fun v19 =>
       (N0 [v19, v18]))))))))))
    (CALL ρ 14 [v6, v8] 1 fun v11 =>
    (OP (.un .not) [v11] fun v12 =>
    (ITE v12
     (Q [bb false])
     (SUB 1 (fun R =>
       (OP .len [v8] fun v13 =>
       (OP (.bin .lss) [v13, I 2] fun v14 =>
       (ITE v14
        (R [bb true])
        (OP (.idx 1) [v8, I 1] fun v15 =>
        (OP .len [v8.cellAt v15 0] fun v16 =>
        (OP (.bin .eql) [v16, I 0] fun v17 =>
        (ITE v17
         (OP (.idx 1) [v8, I 0] fun v18 =>
         (OP .len [v8.cellAt v18 0] fun v19 =>
         (OP (.bin .eql) [v19, I 0] fun v20 =>
         (R [v20]))))
         (R [bb false]))))))))) fun v13 =>
     (ITE v13
      (CALL ρ 21 [] 1 fun v14 =>
      (Q [v14]))
      (LOOP 2 [I 0, .list []] fun N1 v14 v15 =>
       (OP .len [v8] fun v16 =>
       (OP (.bin .lss) [v14, v16] fun v17 =>
       (ITE v17
        (SUB 1 (fun R =>
          (OP (.idx 1) [v8, v14] fun v18 =>
          (OP .len [v8.cellAt v18 0] fun v19 =>
          (OP (.bin .gtr) [v19, I 0] fun v20 =>
          (ITE v20
           (OP (.idx 1) [v8, v14] fun v21 =>
           (OP (.idx 1) [v8.cellAt v21 0, I 0] fun v22 =>
           (OP .len [v8] fun v23 =>
           (OP (.bin .lss) [(v8.cellAt v21 0).cellAt v22 0, v23] fun v24 =>
           (ITE v24
            (OP .len [v15] fun v25 =>
            (OP (.bin .eql) [v25, I 0] fun v26 =>
            (R [v26])))
            (R [bb false]))))))
           (R [bb false])))))) fun v18 =>
        (ITE v18
         (LOOP 2 [I 0, v15] fun N2 v19 v20 =>
          (OP .len [v8] fun v21 =>
          (OP (.bin .lss) [v19, v21] fun v22 =>
          (ITE v22
           (OP (.idx 1) [v8, v19] fun v23 =>
           (OP (.rows 1) [v8.cellAt v23 0] fun v24 =>
           (OP (.app 1 24) [v20, v24] fun v25 =>
           (OP (.bin .add) [v19, I 1] fun v26 =>
           (N2 [v26, v25])))))
           (OP (.idx 1) [v8, v14] fun v23 =>
           (OP (.idx 1) [v8.cellAt v23 0, I 0] fun v24 =>
           (OP (.rows 1) [v14] fun v25 =>
           (OP (.idx 1) [v20, (v8.cellAt v23 0).cellAt v24 0] fun v26 =>
           (OP (.set 0) [v20, v26, v25] fun v27 =>
           (OP (.bin .add) [v14, I 1] fun v28 =>
           (N1 [v28, v27])))))))))))
         (OP (.bin .add) [v14, I 1] fun v19 =>
         (N1 [v19, v15]))))
        (OP .len [v15] fun v18 =>
        (OP (.bin .eql) [v18, I 0] fun v19 =>
        (ITE v19
         (CALL ρ 21 [] 1 fun v20 =>
         (Q [v20]))
         (CALL ρ 14 [v6, v15] 1 fun v20 =>
         (OP (.un .not) [v20] fun v21 =>
         (ITE v21
          (CALL ρ 21 [] 1 fun v22 =>
          (Q [v22]))
          (Q [bb false]))))))))))))))))))))))))))
end Go.Xt
