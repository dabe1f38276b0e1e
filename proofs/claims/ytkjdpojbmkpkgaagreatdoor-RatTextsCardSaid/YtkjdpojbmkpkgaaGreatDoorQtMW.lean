/- Small helps beside the print's words. -/
import Derived.Test.YtkjdpojbmkpkgaaGreatDoorQtWWords
import Derived.WalkMore
import Derived.StillTailTactics
namespace Go.Proofs.YtkjdpojbmkpkgaaGreatDoor.MW
open Go.Proofs.YtkjdpojbmkpkgaaGreatDoorW.PrintWords
theorem readsRow_len {α : Type} {R : α → List Value → Prop} {sz : Nat} {W : World} {A : Option Addr} {m m' : Nat} {ys : List α} (h : m' = m) (hr : ReadsRow R sz W A m' ys) : ReadsRow R sz W A m ys := h ▸ hr
theorem kdC_len {α : Type} {d : Kd α} {W : World} {A : Option Addr} {m m' : Nat} {ys : List α} (h : m' = m) (hr : d.C W A m' ys) : ReadsRow (d.K W) d.sz W A m ys := h ▸ hr
end Go.Proofs.YtkjdpojbmkpkgaaGreatDoor.MW
