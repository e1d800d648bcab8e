-- printed by a program of this session (myprint.py) out of the translation
import Derived.Test.YtdpkfpbdadloaaaFG0
namespace Go.Proofs.Ytdpkfpbdadloaaa.PG
open Go.RowKit Go.Proofs.YtdpkfpbdadloaaaW.PrintWords Go.Proofs.YtdpkfpbdadloaaaW.PrintLast Go.Proofs.YtdpkfpbdadloaaaW.PrintMore
attribute [local go_sem] max2_int min2_int max_two min_two max_three min_three max_four min_four   -- for this text's walks alone
set_option linter.unusedVariables false
set_option linter.unusedSimpArgs false

/-! ### hash_mix: function 46 -/
def hash_mix.f (a0 : Int) (a1 : Int) : Option (Int) := some (Go.bits .xor .u32 (((Go.bits .xor .u32 (((Go.bits .xor .u32 (Go.bits .xor .u32 ((a0 + 2654435769) % 4294967296) a1) ((Go.bits .xor .u32 ((a0 + 2654435769) % 4294967296) a1) / 65536)) * 2246822507) % 4294967296) ((((Go.bits .xor .u32 (Go.bits .xor .u32 ((a0 + 2654435769) % 4294967296) a1) ((Go.bits .xor .u32 ((a0 + 2654435769) % 4294967296) a1) / 65536)) * 2246822507) % 4294967296) / 8192)) * 3266489909) % 4294967296) ((((Go.bits .xor .u32 (((Go.bits .xor .u32 (Go.bits .xor .u32 ((a0 + 2654435769) % 4294967296) a1) ((Go.bits .xor .u32 ((a0 + 2654435769) % 4294967296) a1) / 65536)) * 2246822507) % 4294967296) ((((Go.bits .xor .u32 (Go.bits .xor .u32 ((a0 + 2654435769) % 4294967296) a1) ((Go.bits .xor .u32 ((a0 + 2654435769) % 4294967296) a1) / 65536)) * 2246822507) % 4294967296) / 8192)) * 3266489909) % 4294967296) / 65536))
set_option maxHeartbeats 8000000 in
set_option maxRecDepth 100000 in
theorem hash_mix.calls (a0 : Int) (a1 : Int) (r : Int) (w : World) (h : hash_mix.f a0 a1 = some r) :
    Calls Try.prog 46 #[.int .u32 a0, .int .u32 a1] w fun e w' => e = .returned (.int .u32 r) ∧ Drawn0 w w' := by
  have H : (some (Go.bits .xor .u32 (((Go.bits .xor .u32 (((Go.bits .xor .u32 (Go.bits .xor .u32 ((a0 + 2654435769) % 4294967296) a1) ((Go.bits .xor .u32 ((a0 + 2654435769) % 4294967296) a1) / 65536)) * 2246822507) % 4294967296) ((((Go.bits .xor .u32 (Go.bits .xor .u32 ((a0 + 2654435769) % 4294967296) a1) ((Go.bits .xor .u32 ((a0 + 2654435769) % 4294967296) a1) / 65536)) * 2246822507) % 4294967296) / 8192)) * 3266489909) % 4294967296) ((((Go.bits .xor .u32 (((Go.bits .xor .u32 (Go.bits .xor .u32 ((a0 + 2654435769) % 4294967296) a1) ((Go.bits .xor .u32 ((a0 + 2654435769) % 4294967296) a1) / 65536)) * 2246822507) % 4294967296) ((((Go.bits .xor .u32 (Go.bits .xor .u32 ((a0 + 2654435769) % 4294967296) a1) ((Go.bits .xor .u32 ((a0 + 2654435769) % 4294967296) a1) / 65536)) * 2246822507) % 4294967296) / 8192)) * 3266489909) % 4294967296) / 65536))) = some r := h
  clear h
  obtain rfl := Option.some.inj H
  go_enter Try.func46, Try.ntmps46
  go_wp2
  go_ret
  exact ⟨by first | rfl | (simp; done) | (simp [*]; done), by repeat (first | exact Drawn0.refl _ | apply Drawn0.step)⟩

end Go.Proofs.Ytdpkfpbdadloaaa.PG
