/- The numbers under which the translation holds sync.Mutex's functions and types. -/
import Derived.Test.YtglafkgakcfahaaGreatDoorProg
import Derived.Conc.RwLib
import Derived.Conc.MuData
import Derived.KernelRfl
namespace Go.Proofs
abbrev Tryz.muLink : Go.Conc.Locks.MuLink := { lock := 100, unlock := 101, ilock := 139, iunlock := 140, lockSlow := 163, unlockSlow := 166, disable := 159, enable := 161, acquire := 162, relMerge := 164, cas32 := 160, add32 := 165, tMutex := 93, tIMutex := 91, tPMutex := 309, tPIMutex := 340, tPI32 := 342, tUP := 166, tNoCopy := 88, tU32 := 89 }
theorem Tryz.muLib : Go.Conc.Locks.MuLib Tryz.prog Tryz.muLink :=
  ⟨Tryz.func100, Tryz.func101, Tryz.func139, Tryz.func140, Tryz.func159, Tryz.func161, Tryz.func162, Tryz.func164, Tryz.func160, Tryz.func165, Tryz.underlying91, Tryz.runUnderlying91, Tryz.sizeOf91, Tryz.isAgg91, Tryz.zeroValue91, Tryz.underlying93, Tryz.runUnderlying93, Tryz.sizeOf93, Tryz.isAgg93, Tryz.zeroValue93, Tryz.underlying309, Tryz.runUnderlying309, Tryz.sizeOf309, Tryz.isAgg309, Tryz.zeroValue309, Tryz.underlying340, Tryz.runUnderlying340, Tryz.sizeOf340, Tryz.isAgg340, Tryz.zeroValue340, Tryz.underlying342, Tryz.runUnderlying342, Tryz.sizeOf342, Tryz.isAgg342, Tryz.zeroValue342, Tryz.underlying166, Tryz.runUnderlying166, Tryz.sizeOf166, Tryz.isAgg166, Tryz.zeroValue166, Tryz.underlying88, Tryz.runUnderlying88, Tryz.sizeOf88, Tryz.isAgg88, Tryz.zeroValue88, Tryz.underlying21, Tryz.runUnderlying21, Tryz.sizeOf21, Tryz.isAgg21, Tryz.zeroValue21, (by kernel_rfl)⟩
end Go.Proofs
