set_option linter.all false
/-! Names of functions, more. Printed by program. -/
namespace Go.AR
abbrev n_plaw31_awake : Nat := 375
abbrev n_net_New : Nat := 376
abbrev n_net_Net_Send : Nat := 377
abbrev n_net_Net_Spoil : Nat := 378
abbrev n_net_Net_Take : Nat := 379
abbrev n_net_Net_Len : Nat := 380
abbrev n_net_Net_Look : Nat := 383
abbrev n_plaw31_NetNone : Nat := 385
abbrev n_net_Net_Twice : Nat := 386
abbrev n_net_Net_is : Nat := 392
end Go.AR
