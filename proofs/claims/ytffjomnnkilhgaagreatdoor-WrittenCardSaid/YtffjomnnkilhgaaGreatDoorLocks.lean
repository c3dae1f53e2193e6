/- The numbers under which the translation holds sync.Mutex's functions and types. -/
import Derived.Test.YtffjomnnkilhgaaGreatDoorProg
import Derived.Conc.RwLib
import Derived.Conc.MuData
import Derived.KernelRfl
namespace Go.Proofs
abbrev Tryz.muLink : Go.Conc.Locks.MuLink := { lock := 165, unlock := 166, ilock := 206, iunlock := 207, lockSlow := 235, unlockSlow := 238, disable := 231, enable := 233, acquire := 234, relMerge := 236, cas32 := 232, add32 := 237, tMutex := 165, tIMutex := 163, tPMutex := 398, tPIMutex := 429, tPI32 := 431, tUP := 216, tNoCopy := 160, tU32 := 161 }
theorem Tryz.muLib : Go.Conc.Locks.MuLib Tryz.prog Tryz.muLink :=
  ⟨Tryz.func165, Tryz.func166, Tryz.func206, Tryz.func207, Tryz.func231, Tryz.func233, Tryz.func234, Tryz.func236, Tryz.func232, Tryz.func237, Tryz.underlying163, Tryz.runUnderlying163, Tryz.sizeOf163, Tryz.isAgg163, Tryz.zeroValue163, Tryz.underlying165, Tryz.runUnderlying165, Tryz.sizeOf165, Tryz.isAgg165, Tryz.zeroValue165, Tryz.underlying398, Tryz.runUnderlying398, Tryz.sizeOf398, Tryz.isAgg398, Tryz.zeroValue398, Tryz.underlying429, Tryz.runUnderlying429, Tryz.sizeOf429, Tryz.isAgg429, Tryz.zeroValue429, Tryz.underlying431, Tryz.runUnderlying431, Tryz.sizeOf431, Tryz.isAgg431, Tryz.zeroValue431, Tryz.underlying216, Tryz.runUnderlying216, Tryz.sizeOf216, Tryz.isAgg216, Tryz.zeroValue216, Tryz.underlying160, Tryz.runUnderlying160, Tryz.sizeOf160, Tryz.isAgg160, Tryz.zeroValue160, Tryz.underlying21, Tryz.runUnderlying21, Tryz.sizeOf21, Tryz.isAgg21, Tryz.zeroValue21, (by kernel_rfl)⟩
end Go.Proofs
