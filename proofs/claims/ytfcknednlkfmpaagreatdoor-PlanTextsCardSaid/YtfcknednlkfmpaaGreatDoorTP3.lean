/- The functions that this law reaches, as the abstract machine's terms, each held against the program by the kernel. Printed by a program of this session's. Conditions: none. -/
import Derived.Test.YtfcknednlkfmpaaGreatDoorTP0
set_option linter.unusedVariables false
set_option maxRecDepth 100000
namespace Go.Bvm.YtfcknednlkfmpaaGreatDoorTP
open Go.Proofs
noncomputable section
variable (cf : CallF) (lf : Nat)
def F392_0 (a : V) : M := fun b c d => eqlS a (V.s 1 36) fun g => condV g (d (X.x 1) b c) (d X.n b c)
def F392_1 : M := fun a b c => cf 393 (vc a.c0.c2 V.nil) b fun d g => condV d (c (X.x 2) a g) (c X.n a g)
def F392_2 : M := fun a b c => cf 395 (vc a.c0.c2 V.nil) b fun d g => condV d (c (X.x 3) a g) (c X.n a g)
def F392_3 : M := fun a b c => eqlS a.c0.c2 (V.s 4 1819047278) fun d => condV d (c (X.x 4) a b) (c X.n a b)
def F392_4 : M := fun a b c => eqlS a.c0.c2 (V.s 4 1702195828) fun d => condV d (c (X.x 5) a b) (c X.n a b)
def F392_5 : M := fun a b c => eqlS a.c0.c2 (V.s 5 435728179558) fun d => condV d (c (X.x 6) a b) (c X.n a b)
def F392_6 (a : L8) (b : H) (c : KX) := cf 361 (vc a.c0.c3 V.nil) b fun d g => ext 0 d fun i => ext 1 d fun j => part 0 true 1 (wI 14) (vc (wI 0) (vc (V.s 0 0) (vc (V.s 0 0) (vc (wI 0) (vc vN V.nil))))) fun m => part 1 true 1 i m fun n => cf 298 (vc a.c0.c3 (vc (V.x .agg n V.nil) (vc j V.nil))) g fun o p => ext 0 o fun q => ext 1 o fun r => sl0 q a fun s => sl1 r s fun t => c X.r t p
def F392_7 : M := fun a b c => nilckV a.c0.c3 fun d => fadV 1 d fun g => ld1 g b fun i => addW i (wI 1) fun j => nilckV a.c0.c3 fun m => fadV 1 m fun n => st true 1 n j b fun o p => F392_6 cf a p c
def F392_8 : M := fun a b c => cf 394 (vc a.c0.c2 V.nil) b fun d g => ext 0 d fun i => ext 1 d fun j => fadV 3 a.c0.c4 fun m => st true 1 m i g fun n o => c (X.x 0) a o
def F392_9 : M := fun a b c => fadV 0 a.c0.c4 fun d => st true 1 d (wI 11) b fun g i => cf 396 (vc a.c0.c2 V.nil) i fun j m => ext 0 j fun n => ext 1 j fun o => fadV 1 a.c0.c4 fun p => st true 1 p n m fun q r => c X.n a r
def F392_10 : M := fun a b c => fadV 0 a.c0.c4 fun d => st true 1 d (wI 13) b fun g i => c (X.x 0) a i
def F392_11 : M := fun a b c => fadV 3 a.c0.c4 fun d => st true 1 d (wI 1) b fun g i => c X.n a i
def F392_12 : M := fun a b c => fadV 0 a.c0.c4 fun d => st true 1 d (wI 12) b fun g i => c (X.x 0) a i
def F392_13 : M := fun a b c => cf 364 (vc a.c0.c3 V.nil) b fun d g => sl0 (wI 0) a fun i => sl1 d i fun j => c X.r j g
def F392_14 : M := fun a b c => c (X.x 0) a b
def F392_15 (a : V) (b : L8) (c : H) (d : KX) := blockM 0 (seqM (blockM 7 (seqM (blockM 6 (seqM (blockM 5 (seqM (blockM 4 (seqM (blockM 3 (seqM (blockM 2 (seqM (blockM 1 (seqM (seqM (F392_0 a) (seqM (F392_1 cf) (seqM (F392_2 cf) (seqM (F392_3) (seqM (F392_4) (F392_5)))))) (fun g i j => j (X.x 7) g i))) (seqM (F392_7 cf) (fun m n o => o (X.x 0) m n)))) (F392_8 cf))) (seqM (F392_9 cf) (fun p q r => r (X.x 0) p q)))) (F392_10))) (F392_11))) (F392_12))) (seqM (F392_13 cf) (F392_14))) b c d
def F392_16 (a : V) : M := fun b c d => cf 330 (vc a V.nil) c fun g i => sl2 g b fun j => F392_15 cf g j i d
def F392_17 : M := fun a b c => nilckV a.c0.c3 fun d => fadV 1 d fun g => ld1 g b fun i => addW i (wI 1) fun j => nilckV a.c0.c3 fun m => fadV 1 m fun n => st true 1 n j b fun o p => lda 5 a.c0.c4 p fun q => cf 298 (vc a.c0.c3 (vc q (vc (V.x .inil V.nil V.nil) V.nil))) p fun r s => ext 0 r fun t => ext 1 r fun u => sl0 t a fun v => sl1 u v fun w => c X.r w s
def F392_18 (a : H) (b : L8) (c : V) (d : KX) := part 0 true 1 (wI 10) (vc (wI 0) (vc (V.s 0 0) (vc (V.s 0 0) (vc (wI 0) (vc vN V.nil))))) fun g => resv 1 a fun i j => newA i false 5 107 (V.x .agg (vc (wI 0) (vc (V.s 0 0) (vc (V.s 0 0) (vc (wI 0) (vc vN V.nil))))) V.nil) j fun m n => sl4 m b fun o => st false 5 m (V.x .agg g V.nil) n fun p q => seqM (F392_16 cf c) (F392_17 cf) o q d
def F392_19 (a : V) : M := fun b c d => sl0 (wI 0) b fun g => sl1 (V.x .inil V.nil V.nil) g fun i => F392_18 cf c i a d
def T392 (cf : CallF) (lf : Nat) : V → H → KV → Bool := fun l h k => onCons l fun a b => onNil b ((F392_19 cf a) (⟨⟨V.u, V.u, V.u, a, V.u, V.u, V.u, V.u⟩, n8 V.u, n8 V.u, n8 V.u, n8 V.u, n8 V.u, n8 V.u, n8 V.u⟩ : L8) h fun x e h => finK (fun e h k => k (V.x .tup (vc e.c0.c0 (vc e.c0.c1 V.nil)) V.nil)) k x e h)
theorem e392 : FnEq Tryz.prog G LF OF 392 T392 := fun cf lf => by kernel_rfl
theorem c392 : chkF Tryz.prog LF OF 392 = true := by kernel_rfl
def F393_0 (a : V) (b : H) (c : L8) (d : KX) := cf 190 (vc a V.nil) b fun g i => guardT g i (fun j => j a i) fun m n => guardT g n (fun o => sidxV m (wI 0) fun p => o p n) fun q r => guardT g r (fun s => eqlY q (V.y 45) fun t => s t r) fun u v => guardT g v (fun w => w u v) fun y a0 => guardF y a0 (fun b0 => b0 a a0) fun c0 d0 => guardF y d0 (fun g0 => sidxV c0 (wI 0) fun i0 => g0 i0 d0) fun j0 m0 => guardF y m0 (fun n0 => cf 301 (vc j0 V.nil) m0 fun o0 p0 => n0 o0 p0) fun q0 r0 => guardT g r0 (fun s0 => pickV y (V.t true) q0 fun t0 => s0 t0 r0) fun u0 v0 => pickV g u0 (V.t false) fun w0 => sl0 w0 c fun y0 => d X.r y0 v0
def F393_1 (a : V) : M := fun b c d => sl0 (V.t false) b fun g => F393_0 cf a c g d
def T393 (cf : CallF) (lf : Nat) : V → H → KV → Bool := fun l h k => onCons l fun a b => onNil b ((F393_1 cf a) (⟨n8 V.u, n8 V.u, n8 V.u, n8 V.u, n8 V.u, n8 V.u, n8 V.u, n8 V.u⟩ : L8) h fun x e h => finK (fun e h k => k e.c0.c0) k x e h)
theorem e393 : FnEq Tryz.prog G LF OF 393 T393 := fun cf lf => by kernel_rfl
theorem c393 : chkF Tryz.prog LF OF 393 = true := by kernel_rfl
def F394_0 (a : V) : M := fun b c d => cf 393 (vc a V.nil) c fun g i => notV g fun j => condV j (sl0 (wI 0) b fun m => sl1 (wI 1) m fun n => d X.r n i) (d X.n b i)
def F394_1 : M := fun a b c => cf 302 (vc a.c0.c2 V.nil) b fun d g => ext 0 d fun i => ext 1 d fun j => ext 2 d fun m => sl0 i a fun n => sl1 (wI 0) n fun o => c X.r o g
def F394_2 (a : V) : M := fun b c d => sl0 (wI 0) b fun g => sl1 (wI 0) g fun i => seqM (F394_0 cf a) (F394_1 cf) i c d
def T394 (cf : CallF) (lf : Nat) : V → H → KV → Bool := fun l h k => onCons l fun a b => onNil b ((F394_2 cf a) (⟨⟨V.u, V.u, a, V.u, V.u, V.u, V.u, V.u⟩, n8 V.u, n8 V.u, n8 V.u, n8 V.u, n8 V.u, n8 V.u, n8 V.u⟩ : L8) h fun x e h => finK (fun e h k => k (V.x .tup (vc e.c0.c0 (vc e.c0.c1 V.nil)) V.nil)) k x e h)
theorem e394 : FnEq Tryz.prog G LF OF 394 T394 := fun cf lf => by kernel_rfl
theorem c394 : chkF Tryz.prog LF OF 394 = true := by kernel_rfl
def F395_0 (a : V) : M := fun b c d => sl0 (V.t false) b fun g => cf 190 (vc a V.nil) c fun i j => guardT i j (fun m => m a j) fun n o => guardT i o (fun p => sidxV n (wI 0) fun q => p q o) fun r s => guardT i s (fun t => eqlY r (V.y 34) fun u => t u s) fun v w => pickV i v (V.t false) fun y => sl0 y g fun a0 => d X.r a0 w
def T395 (cf : CallF) (lf : Nat) : V → H → KV → Bool := fun l h k => onCons l fun a b => onNil b ((F395_0 cf a) (⟨n8 V.u, n8 V.u, n8 V.u, n8 V.u, n8 V.u, n8 V.u, n8 V.u, n8 V.u⟩ : L8) h fun x e h => finK (fun e h k => k e.c0.c0) k x e h)
theorem e395 : FnEq Tryz.prog G LF OF 395 T395 := fun cf lf => by kernel_rfl
theorem c395 : chkF Tryz.prog LF OF 395 = true := by kernel_rfl
def F396_0 (a : V) : M := fun b c d => cf 395 (vc a V.nil) c fun g i => notV g fun j => condV j (sl0 (V.s 0 0) b fun m => sl1 (wI 1) m fun n => d X.r n i) (d X.n b i)
def F396_1 : M := fun a b c => cf 303 (vc a.c0.c2 V.nil) b fun d g => ext 0 d fun i => ext 1 d fun j => ext 2 d fun m => sl0 i a fun n => sl1 (wI 0) n fun o => c X.r o g
def F396_2 (a : V) : M := fun b c d => sl0 (V.s 0 0) b fun g => sl1 (wI 0) g fun i => seqM (F396_0 cf a) (F396_1 cf) i c d
def T396 (cf : CallF) (lf : Nat) : V → H → KV → Bool := fun l h k => onCons l fun a b => onNil b ((F396_2 cf a) (⟨⟨V.u, V.u, a, V.u, V.u, V.u, V.u, V.u⟩, n8 V.u, n8 V.u, n8 V.u, n8 V.u, n8 V.u, n8 V.u, n8 V.u⟩ : L8) h fun x e h => finK (fun e h k => k (V.x .tup (vc e.c0.c0 (vc e.c0.c1 V.nil)) V.nil)) k x e h)
theorem e396 : FnEq Tryz.prog G LF OF 396 T396 := fun cf lf => by kernel_rfl
theorem c396 : chkF Tryz.prog LF OF 396 = true := by kernel_rfl
end
end Go.Bvm.YtfcknednlkfmpaaGreatDoorTP
