set_option linter.all false
/-! The numbers of the functions' names. -/
namespace Go.AR
abbrev n_plaw05_VecLattice : Nat := 0
abbrev n_vec_Join : Nat := 1
abbrev n_vec_Meet : Nat := 2
abbrev n_vec_Within : Nat := 3
abbrev n_plaw05_awake : Nat := 4
abbrev n_plaw05_VecDots : Nat := 5
abbrev n_vec_Has : Nat := 6
abbrev n_plaw05_VecTells : Nat := 7
abbrev n_vec_Right : Nat := 8
abbrev n_pref05_Right : Nat := 9
abbrev n_pref05_Has : Nat := 10
abbrev n_pref05_Join : Nat := 11
abbrev n_pref05_Meet : Nat := 12
abbrev n_pref05_Within : Nat := 13
abbrev n_vec_Code : Nat := 14
abbrev n_pref05_Code : Nat := 15
abbrev n_vec_Count : Nat := 16
abbrev n_pref05_Count : Nat := 17
abbrev n_vec_both : Nat := 18
abbrev n_vec_Join_1 : Nat := 19
abbrev n_vec_Meet_1 : Nat := 20
abbrev n_dot_Right : Nat := 21
abbrev n_pack_Int : Nat := 22
end Go.AR
