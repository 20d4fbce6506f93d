set_option linter.all false
/-! The numbers of the functions' names. -/
namespace Go.AR
abbrev n_pref01_Changed : Nat := 40
end Go.AR

/-! Names of functions, more. Printed by program. -/
namespace Go.AR
abbrev n_plaw31_NetKeeps : Nat := 374
abbrev n_plaw31_awake : Nat := 375
abbrev n_net_New : Nat := 376
abbrev n_net_Net_Send : Nat := 377
abbrev n_net_Net_Spoil : Nat := 378
abbrev n_net_Net_Take : Nat := 379
abbrev n_net_Net_Len : Nat := 380
abbrev n_plaw31_NetPlays : Nat := 381
abbrev n_plaw31_does : Nat := 382
abbrev n_net_Net_Look : Nat := 383
abbrev n_plaw31_same : Nat := 384
abbrev n_plaw31_NetNone : Nat := 385
abbrev n_net_Net_Twice : Nat := 386
abbrev n_pref31_Net_Send : Nat := 387
abbrev n_pref31_Net_Take : Nat := 388
abbrev n_pref31_Net_Twice : Nat := 389
abbrev n_pref31_Net_Spoil : Nat := 390
abbrev n_pref31_Net_Is : Nat := 391
abbrev n_net_Net_is : Nat := 392
abbrev n_slices_Clone_net_Flight_net_Flight : Nat := 393
end Go.AR
