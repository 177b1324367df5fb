/- The functions that this law reaches, as the abstract machine's terms, each held against the program by the kernel. Printed by a program of this session's. Conditions: none. -/
import Derived.Test.YtfcknednlkfmpaaGreatDoorTL0
set_option linter.unusedVariables false
set_option maxRecDepth 100000
namespace Go.Bvm.YtfcknednlkfmpaaGreatDoorTL
open Go.Proofs
noncomputable section
variable (cf : CallF) (lf : Nat)
def F347_0 : M := fun a b c => lssW a.c0.c0 a.c0.c1 fun d => condV d (c X.n a b) (c (X.x 0) a b)
def F347_1 (a : V) (b : H) (c d : V) (g : L8) (i : V) (j : KX) := guardT a b (fun m => subW c (wI 1) fun n => m n b) fun o p => guardT a p (fun q => iadV 4 d o fun r => q r p) fun s t => guardT a t (fun u => lda 4 s t fun v => u v t) fun w y => guardT a y (fun a0 => a0 g.c0.c4 y) fun b0 c0 => guardT a c0 (fun d0 => callV cf b0 (vc i (vc w V.nil)) c0 fun g0 i0 => d0 g0 i0) fun j0 m0 => guardT a m0 (fun n0 => lssW j0 (wI 0) fun o0 => n0 o0 m0) fun p0 q0 => pickV a p0 (V.t false) fun r0 => condV r0 (j X.n g q0) (j (X.x 2) g q0)
def F347_2 : M := fun a b c => resv 0 b fun d g => gtrW a.c0.c2 a.c0.c3 fun i => guardT i g (fun j => j a.c0.c5 g) fun m n => guardT i n (fun o => o a.c0.c2 n) fun p q => guardT i q (fun r => iadV 4 m p fun s => r s q) fun t u => guardT i u (fun v => lda 4 t u fun w => v w u) fun y a0 => guardT i a0 (fun b0 => b0 a.c0.c5 a0) fun c0 d0 => guardT i d0 (fun g0 => g0 a.c0.c2 d0) fun i0 j0 => F347_1 cf i j0 i0 c0 a y c
def F347_3 : M := fun a b c => resv 0 b fun d g => subW a.c0.c2 (wI 1) fun i => iadV 4 a.c0.c5 i fun j => lda 4 j g fun m => iadV 4 a.c0.c5 a.c0.c2 fun n => lda 4 n g fun o => subW a.c0.c2 (wI 1) fun p => iadV 4 a.c0.c5 a.c0.c2 fun q => st false 4 q m g fun r s => iadV 4 a.c0.c5 p fun t => st false 4 t o s fun u v => c X.n a v
def F347_4 : M := fun a b c => subW a.c0.c2 (wI 1) fun d => sl2 d a fun g => c X.n g b
def F347_5 : M := fun a b c => sl2 a.c0.c0 a fun d => blockM 2 (loopM lf (seqM (F347_2 cf) (seqM (blockM 3 (F347_3)) (F347_4)))) d b c
def F347_6 : M := fun a b c => addW a.c0.c0 (wI 1) fun d => sl0 d a fun g => c X.n g b
def F347_7 (a : V) : M := fun b c d => addW a (wI 1) fun g => sl0 g b fun i => blockM 0 (loopM lf (seqM (F347_0) (seqM (blockM 1 (F347_5 cf lf)) (F347_6)))) i c d
def T347 (cf : CallF) (lf : Nat) : V → H → KV → Bool := fun l h k => onCons l fun a b => onCons b fun c d => onCons d fun g i => onCons i fun j m => onNil m ((F347_7 cf lf c) (⟨⟨V.u, g, V.u, c, j, a, V.u, V.u⟩, n8 V.u, n8 V.u, n8 V.u, n8 V.u, n8 V.u, n8 V.u, n8 V.u⟩ : L8) h fun x e h => finK (fun e h k => k (V.x .tup V.nil V.nil)) k x e h)
theorem e347 : FnEq Tryz.prog G LF OF 347 T347 := fun cf lf => by kernel_rfl
theorem c347 : chkF Tryz.prog LF OF 347 = true := by kernel_rfl
def F356_0 (a : V) : M := fun b c d => geqV a (mkI .u64 4294967296) fun g => condV g (shrV a (mkI .u64 32) fun i => sl1 i b fun j => sl0 (wI 32) j fun m => d X.n m c) (d X.n b c)
def F356_1 : M := fun a b c => geqV a.c0.c1 (mkI .u64 65536) fun d => condV d (shrV a.c0.c1 (mkI .u64 16) fun g => sl1 g a fun i => addW i.c0.c0 (wI 16) fun j => sl0 j i fun m => c X.n m b) (c X.n a b)
def F356_2 : M := fun a b c => geqV a.c0.c1 (mkI .u64 256) fun d => condV d (shrV a.c0.c1 (mkI .u64 8) fun g => sl1 g a fun i => addW i.c0.c0 (wI 8) fun j => sl0 j i fun m => c X.n m b) (c X.n a b)
def F356_3 : M := fun a b c => toY a.c0.c1 fun d => sidxV (V.s 256 1013866857139168856493015739252390649739422828853819106890363778118420553376247557433637691341895324351018602695588957474325319502760499485336098898398377509666851054660423406800006203933793007272033180812049178612605246075062580585469430410618860250057463399279570354286669047577758927328864388992123306212451509403152394148136105363817402562688186708175358218852349079190158732807302672745370040257219644697201681238697346923541678507645485296520536209706771857694240900605172937619415410180424934769249448772944216470541052485265558808433676546390051204254346932932316488017972311616136051587427851453983453479168) d fun g => toW g fun i => addW a.c0.c0 i fun j => sl0 j a fun m => c X.r m b
def F356_4 (a : V) : M := fun b c d => sl0 (wI 0) b fun g => seqM (F356_0 a) (seqM (F356_1) (seqM (F356_2) (F356_3))) g c d
def T356 (cf : CallF) (lf : Nat) : V → H → KV → Bool := fun l h k => onCons l fun a b => onNil b ((F356_4 a) (⟨⟨V.u, a, V.u, V.u, V.u, V.u, V.u, V.u⟩, n8 V.u, n8 V.u, n8 V.u, n8 V.u, n8 V.u, n8 V.u, n8 V.u⟩ : L8) h fun x e h => finK (fun e h k => k e.c0.c0) k x e h)
theorem e356 : FnEq Tryz.prog G LF OF 356 T356 := fun cf lf => by kernel_rfl
theorem c356 : chkF Tryz.prog LF OF 356 = true := by kernel_rfl
def F357_0 (a : V) : M := fun b c d => condV a (d X.n b c) (d (X.x 0) b c)
def F357_1 : M := fun a b c => ext 1 a.c0.c2 fun d => ext 2 a.c0.c2 fun g => callV cf a.c0.c3 (vc g V.nil) b fun i j => eqT idB i a.c0.c4 fun m => condV m (sl0 d a fun n => c X.r n j) (c X.n a j)
def F357_2 : M := fun a b c => itN a.c0.c1 b fun d g => sl2 d a fun i => ext 0 d fun j => seqM (F357_0 j) (blockM 1 (F357_1 cf)) i g c
def F357_3 (a : V) : M := fun b c d => resv 1 c fun g i => itA g a i fun j m => sl1 j b fun n => blockM 0 (loopM lf (F357_2 cf)) n m d
def F357_4 : M := fun a b c => sl0 (V.w 9223372036854775807) a fun d => c X.r d b
def F357_5 (a : V) : M := fun b c d => sl0 (wI 0) b fun g => seqM (F357_3 cf lf a) (F357_4) g c d
def T357 (cf : CallF) (lf : Nat) : V → H → KV → Bool := fun l h k => onCons l fun a b => onCons b fun c d => onCons d fun g i => onNil i ((F357_5 cf lf a) (⟨⟨V.u, V.u, V.u, c, g, V.u, V.u, V.u⟩, n8 V.u, n8 V.u, n8 V.u, n8 V.u, n8 V.u, n8 V.u, n8 V.u⟩ : L8) h fun x e h => finK (fun e h k => k e.c0.c0) k x e h)
theorem e357 : FnEq Tryz.prog G LF OF 357 T357 := fun cf lf => by kernel_rfl
theorem c357 : chkF Tryz.prog LF OF 357 = true := by kernel_rfl
def F360_0 (a b : V) : M := fun c d g => cf 330 (vc a V.nil) d fun i j => neqS i b fun m => condV m (sl0 (V.t false) c fun n => g X.r n j) (g X.n c j)
def F360_1 : M := fun a b c => nilckV a.c0.c1 fun d => fadV 1 d fun g => ld1 g b fun i => addW i (wI 1) fun j => nilckV a.c0.c1 fun m => fadV 1 m fun n => st true 1 n j b fun o p => sl0 (V.t true) a fun q => c X.r q p
def F360_2 (a b : V) : M := fun c d g => sl0 (V.t false) c fun i => seqM (F360_0 cf a b) (F360_1) i d g
def T360 (cf : CallF) (lf : Nat) : V → H → KV → Bool := fun l h k => onCons l fun a b => onCons b fun c d => onNil d ((F360_2 cf a c) (⟨⟨V.u, a, V.u, V.u, V.u, V.u, V.u, V.u⟩, n8 V.u, n8 V.u, n8 V.u, n8 V.u, n8 V.u, n8 V.u, n8 V.u⟩ : L8) h fun x e h => finK (fun e h k => k e.c0.c0) k x e h)
theorem e360 : FnEq Tryz.prog G LF OF 360 T360 := fun cf lf => by kernel_rfl
theorem c360 : chkF Tryz.prog LF OF 360 = true := by kernel_rfl
def F361_0 (a b : V) : M := fun c d g => cf 138 (vc a V.nil) d fun i j => notV i fun m => condV m (cf 364 (vc b V.nil) j fun n o => sl0 (V.s 0 0) c fun p => sl1 n p fun q => g X.r q o) (g X.n c j)
def F361_1 : M := fun a b c => nilckV a.c0.c2 fun d => fadV 1 d fun g => ld1 g b fun i => addW i (wI 1) fun j => nilckV a.c0.c2 fun m => fadV 1 m fun n => st true 1 n j b fun o p => sl0 a.c0.c3 a fun q => sl1 (V.x .inil V.nil V.nil) q fun r => c X.r r p
def F361_2 (a : V) : M := fun b c d => sl0 (V.s 0 0) b fun g => sl1 (V.x .inil V.nil V.nil) g fun i => cf 330 (vc a V.nil) c fun j m => sl3 j i fun n => seqM (F361_0 cf j a) (F361_1) n m d
def T361 (cf : CallF) (lf : Nat) : V → H → KV → Bool := fun l h k => onCons l fun a b => onNil b ((F361_2 cf a) (⟨⟨V.u, V.u, a, V.u, V.u, V.u, V.u, V.u⟩, n8 V.u, n8 V.u, n8 V.u, n8 V.u, n8 V.u, n8 V.u, n8 V.u⟩ : L8) h fun x e h => finK (fun e h k => k (V.x .tup (vc e.c0.c0 (vc e.c0.c1 V.nil)) V.nil)) k x e h)
theorem e361 : FnEq Tryz.prog G LF OF 361 T361 := fun cf lf => by kernel_rfl
theorem c361 : chkF Tryz.prog LF OF 361 = true := by kernel_rfl
def F362_0 (a : V) : M := fun b c d => eqN nilI nots a (V.x .inil V.nil V.nil) fun g => condV g (sl0 vN b fun i => sl1 a i fun j => d X.r j c) (d X.n b c)
def F362_1 : M := fun a b c => resv 1 b fun d g => part 0 true 1 a.c0.c3 (vc (wI 0) V.nil) fun i => bslA d 1 1 3 i g fun j m => app 1 3 a.c0.c0 j m fun n o => sl0 n a fun p => cf 360 (vc p.c0.c4 (vc p.c0.c5 V.nil)) o fun q r => condV q (sl0 n p fun s => sl1 (V.x .inil V.nil V.nil) s fun t => c X.r t r) (c X.n p r)
def F362_2 : M := fun a b c => callV cf a.c0.c2 V.nil b fun d g => ext 0 d fun i => ext 1 d fun j => sl3 i a fun m => seqM (F362_0 j) (F362_1 cf) m g c
def F362_3 : M := fun a b c => sl0 vN a fun d => sl1 (V.x .inil V.nil V.nil) d fun g => blockM 0 (loopM lf (blockM 1 (F362_2 cf))) g b c
def T362 (cf : CallF) (lf : Nat) : V → H → KV → Bool := fun l h k => onCons l fun a b => onCons b fun c d => onCons d fun g i => onNil i ((F362_3 cf lf) (⟨⟨V.u, V.u, g, V.u, a, c, V.u, V.u⟩, n8 V.u, n8 V.u, n8 V.u, n8 V.u, n8 V.u, n8 V.u, n8 V.u⟩ : L8) h fun x e h => finK (fun e h k => k (V.x .tup (vc e.c0.c0 (vc e.c0.c1 V.nil)) V.nil)) k x e h)
theorem e362 : FnEq Tryz.prog G LF OF 362 T362 := fun cf lf => by kernel_rfl
theorem c362 : chkF Tryz.prog LF OF 362 = true := by kernel_rfl
def F365_0 (a b : V) : M := fun c d g => cf 330 (vc a V.nil) d fun i j => neqS i b fun m => condV m (cf 364 (vc a V.nil) j fun n o => sl0 n c fun p => g X.r p o) (g X.n c j)
def F365_1 : M := fun a b c => nilckV a.c0.c1 fun d => fadV 1 d fun g => ld1 g b fun i => addW i (wI 1) fun j => nilckV a.c0.c1 fun m => fadV 1 m fun n => st true 1 n j b fun o p => sl0 (V.x .inil V.nil V.nil) a fun q => c X.r q p
def F365_2 (a b : V) : M := fun c d g => sl0 (V.x .inil V.nil V.nil) c fun i => seqM (F365_0 cf a b) (F365_1) i d g
def T365 (cf : CallF) (lf : Nat) : V → H → KV → Bool := fun l h k => onCons l fun a b => onCons b fun c d => onNil d ((F365_2 cf a c) (⟨⟨V.u, a, V.u, V.u, V.u, V.u, V.u, V.u⟩, n8 V.u, n8 V.u, n8 V.u, n8 V.u, n8 V.u, n8 V.u, n8 V.u⟩ : L8) h fun x e h => finK (fun e h k => k e.c0.c0) k x e h)
theorem e365 : FnEq Tryz.prog G LF OF 365 T365 := fun cf lf => by kernel_rfl
theorem c365 : chkF Tryz.prog LF OF 365 = true := by kernel_rfl
def F367_0 (a : V) : M := fun b c d => cf 360 (vc a (vc (V.s 3 3026478) V.nil)) c fun g i => notV g fun j => condV j (cf 380 (vc a V.nil) i fun m n => ext 0 m fun o => ext 1 m fun p => sl0 o b fun q => sl1 p q fun r => d X.r r n) (d X.n b i)
def F367_1 (a : L8) (b : H) (c : V) (d : KX) := nilckV a.c0.c2 fun g => fadV 1 g fun i => ld1 i b fun j => addW j (wI 1) fun m => nilckV a.c0.c2 fun n => fadV 1 n fun o => st true 1 o m b fun p q => cf 361 (vc a.c0.c2 V.nil) q fun r s => ext 0 r fun t => ext 1 r fun u => fadV 2 c fun v => st true 1 v t s fun w y => eqN nilI nots u (V.x .inil V.nil V.nil) fun a0 => condV a0 (sl0 (wI 0) a fun b0 => sl1 u b0 fun c0 => d X.r c0 y) (d X.n a y)
def F367_2 (a : V) (b : H) (c : V) (d : L8) (g : KX) := fadV 0 a fun i => st true 1 i (wI 7) b fun j m => fadV 1 a fun n => st true 1 n c m fun o p => cf 381 (vc d.c0.c2 V.nil) p fun q r => ext 0 q fun s => ext 1 q fun t => fadV 4 a fun u => st true 1 u s r fun v w => lda 5 a w fun y => cf 298 (vc d.c0.c2 (vc y (vc t V.nil))) w fun a0 b0 => ext 0 a0 fun c0 => ext 1 a0 fun d0 => sl0 c0 d fun g0 => sl1 d0 g0 fun i0 => g X.r i0 b0
def F367_3 (a b : V) : M := fun c d g => eqlS a (V.s 2 28271) fun i => condV i (F367_1 cf c d b g) (cf 138 (vc a V.nil) d fun j m => condV j (nilckV c.c0.c2 fun n => fadV 1 n fun o => ld1 o m fun p => addW p (wI 1) fun q => nilckV c.c0.c2 fun r => fadV 1 r fun s => st true 1 s q m fun t u => F367_2 cf b u a c g) (g X.n c m))
def F367_4 (a : V) : M := fun b c d => cf 330 (vc b.c0.c2 V.nil) c fun g i => blockM 0 (F367_3 cf g a) b i d
def F367_5 : M := fun a b c => cf 382 (vc a.c0.c2 (vc (V.t true) V.nil)) b fun d g => ext 0 d fun i => ext 1 d fun j => fadV 4 a.c0.c3 fun m => st true 1 m i g fun n o => lda 5 a.c0.c3 o fun p => cf 298 (vc a.c0.c2 (vc p (vc j V.nil))) o fun q r => ext 0 q fun s => ext 1 q fun t => sl0 s a fun u => sl1 t u fun v => c X.r v r
def F367_6 : M := fun a b c => part 0 true 1 (wI 8) (vc (wI 0) (vc (V.s 0 0) (vc (V.s 0 0) (vc (wI 0) (vc vN V.nil))))) fun d => resv 1 b fun g i => newA g false 5 107 (V.x .agg (vc (wI 0) (vc (V.s 0 0) (vc (V.s 0 0) (vc (wI 0) (vc vN V.nil))))) V.nil) i fun j m => sl3 j a fun n => st false 5 j (V.x .agg d V.nil) m fun o p => seqM (F367_4 cf j) (F367_5 cf) n p c
def F367_7 (a : V) : M := fun b c d => sl0 (wI 0) b fun g => sl1 (V.x .inil V.nil V.nil) g fun i => seqM (F367_0 cf a) (F367_6 cf) i c d
def T367 (cf : CallF) (lf : Nat) : V → H → KV → Bool := fun l h k => onCons l fun a b => onNil b ((F367_7 cf a) (⟨⟨V.u, V.u, a, V.u, V.u, V.u, V.u, V.u⟩, n8 V.u, n8 V.u, n8 V.u, n8 V.u, n8 V.u, n8 V.u, n8 V.u⟩ : L8) h fun x e h => finK (fun e h k => k (V.x .tup (vc e.c0.c0 (vc e.c0.c1 V.nil)) V.nil)) k x e h)
theorem e367 : FnEq Tryz.prog G LF OF 367 T367 := fun cf lf => by kernel_rfl
theorem c367 : chkF Tryz.prog LF OF 367 = true := by kernel_rfl
def F380_0 (a : V) : M := fun b c d => eqN nilI nots a (V.x .inil V.nil V.nil) fun g => condV g (sl0 (wI 0) b fun i => sl1 a i fun j => d X.r j c) (d X.n b c)
def F380_1 : M := fun a b c => cf 360 (vc a.c0.c4 (vc (V.s 1 58) V.nil)) b fun d g => condV d (fadV 2 a.c0.c3 fun i => st true 1 i a.c0.c2 g fun j m => cf 361 (vc a.c0.c4 V.nil) m fun n o => ext 0 n fun p => ext 1 n fun q => fadV 1 a.c0.c3 fun r => st true 1 r p o fun s t => eqN nilI nots q (V.x .inil V.nil V.nil) fun u => condV u (sl0 (wI 0) a fun v => sl1 q v fun w => c X.r w t) (c X.n a t)) (c X.n a g)
def F380_2 : M := fun a b c => cf 388 (vc a.c0.c4 V.nil) b fun d g => ext 0 d fun i => ext 1 d fun j => fadV 4 a.c0.c3 fun m => st true 1 m i g fun n o => eqN nilI nots j (V.x .inil V.nil V.nil) fun p => condV p (sl0 (wI 0) a fun q => sl1 j q fun r => c X.r r o) (c X.n a o)
def F380_3 : M := fun a b c => cf 382 (vc a.c0.c4 (vc (V.t false) V.nil)) b fun d g => ext 0 d fun i => ext 1 d fun j => fadV 4 a.c0.c3 fun m => ld1 m g fun n => app 1 3 n i g fun o p => fadV 4 a.c0.c3 fun q => st true 1 q o p fun r s => lda 5 a.c0.c3 s fun t => cf 298 (vc a.c0.c4 (vc t (vc j V.nil))) s fun u v => ext 0 u fun w => ext 1 u fun y => sl0 w a fun a0 => sl1 y a0 fun b0 => c X.r b0 v
def F380_4 : M := fun a b c => fadV 1 a.c0.c3 fun d => st true 1 d a.c0.c2 b fun g i => seqM (F380_1 cf) (seqM (F380_2 cf) (F380_3 cf)) a i c
def F380_5 (a : H) (b : L8) (c : V) (d : KX) := part 0 true 1 (wI 4) (vc (wI 0) (vc (V.s 0 0) (vc (V.s 0 0) (vc (wI 0) (vc vN V.nil))))) fun g => resv 1 a fun i j => newA i false 5 107 (V.x .agg (vc (wI 0) (vc (V.s 0 0) (vc (V.s 0 0) (vc (wI 0) (vc vN V.nil))))) V.nil) j fun m n => sl3 m b fun o => st false 5 m (V.x .agg g V.nil) n fun p q => cf 361 (vc c V.nil) q fun r s => ext 0 r fun t => ext 1 r fun u => sl2 t o fun v => seqM (F380_0 u) (F380_4 cf) v s d
def F380_6 (a : V) : M := fun b c d => sl0 (wI 0) b fun g => sl1 (V.x .inil V.nil V.nil) g fun i => F380_5 cf c i a d
def T380 (cf : CallF) (lf : Nat) : V → H → KV → Bool := fun l h k => onCons l fun a b => onNil b ((F380_6 cf a) (⟨⟨V.u, V.u, V.u, V.u, a, V.u, V.u, V.u⟩, n8 V.u, n8 V.u, n8 V.u, n8 V.u, n8 V.u, n8 V.u, n8 V.u⟩ : L8) h fun x e h => finK (fun e h k => k (V.x .tup (vc e.c0.c0 (vc e.c0.c1 V.nil)) V.nil)) k x e h)
theorem e380 : FnEq Tryz.prog G LF OF 380 T380 := fun cf lf => by kernel_rfl
theorem c380 : chkF Tryz.prog LF OF 380 = true := by kernel_rfl
def F381_0 : M := fun a b c => cf 360 (vc a.c0.c2 (vc (V.s 1 64) V.nil)) b fun d g => condV d (c X.n a g) (c (X.x 0) a g)
def F381_1 (a : V) : M := fun b c d => eqN nilI nots a (V.x .inil V.nil V.nil) fun g => condV g (sl0 vN b fun i => sl1 a i fun j => d X.r j c) (d X.n b c)
def F381_2 (a : V) : M := fun b c d => eqN nilI nots a (V.x .inil V.nil V.nil) fun g => condV g (cf 297 (vc (V.s 9 1871653630383947409764) (vc a V.nil)) c fun i j => sl0 vN b fun m => sl1 i m fun n => d X.r n j) (d X.n b c)
def F381_3 : M := fun a b c => resv 1 b fun d g => part 0 true 1 a.c0.c4 (vc (wI 0) V.nil) fun i => bslA d 1 1 3 i g fun j m => app 1 3 a.c0.c0 j m fun n o => sl0 n a fun p => c X.n p o
def F381_4 (a : L8) (b c : V) (d : H) (g : KX) := part 0 true 1 (wI 6) (vc (wI 0) (vc (V.s 0 0) (vc (V.s 0 0) (vc (wI 0) (vc vN V.nil))))) fun i => part 1 true 1 a.c0.c3 i fun j => part 4 true 1 b j fun m => cf 298 (vc a.c0.c2 (vc (V.x .agg m V.nil) (vc c V.nil))) d fun n o => ext 0 n fun p => ext 1 n fun q => sl4 p a fun r => seqM (F381_2 cf q) (F381_3) r o g
def F381_5 : M := fun a b c => cf 388 (vc a.c0.c2 V.nil) b fun d g => ext 0 d fun i => ext 1 d fun j => F381_4 cf a i j g c
def F381_6 : M := fun a b c => cf 361 (vc a.c0.c2 V.nil) b fun d g => ext 0 d fun i => ext 1 d fun j => sl3 i a fun m => seqM (F381_1 j) (F381_5 cf) m g c
def F381_7 : M := fun a b c => sl0 a.c0.c0 a fun d => sl1 (V.x .inil V.nil V.nil) d fun g => c X.r g b
def F381_8 : M := fun a b c => sl0 vN a fun d => sl1 (V.x .inil V.nil V.nil) d fun g => seqM (blockM 0 (loopM lf (seqM (F381_0 cf) (blockM 1 (F381_6 cf))))) (F381_7) g b c
def T381 (cf : CallF) (lf : Nat) : V → H → KV → Bool := fun l h k => onCons l fun a b => onNil b ((F381_8 cf lf) (⟨⟨V.u, V.u, a, V.u, V.u, V.u, V.u, V.u⟩, n8 V.u, n8 V.u, n8 V.u, n8 V.u, n8 V.u, n8 V.u, n8 V.u⟩ : L8) h fun x e h => finK (fun e h k => k (V.x .tup (vc e.c0.c0 (vc e.c0.c1 V.nil)) V.nil)) k x e h)
theorem e381 : FnEq Tryz.prog G LF OF 381 T381 := fun cf lf => by kernel_rfl
theorem c381 : chkF Tryz.prog LF OF 381 = true := by kernel_rfl
def F382_0 (a b c d : V) : M := fun g i j => eqN nilI nots a (V.x .inil V.nil V.nil) fun m => guardF m i (fun n => n b i) fun o p => guardF m p (fun q => notV o fun r => q r p) fun s t => guardF m t (fun u => u s t) fun v w => guardT v w (fun y => y c w) fun a0 b0 => guardT v b0 (fun c0 => cf 330 (vc a0 V.nil) b0 fun d0 g0 => c0 d0 g0) fun i0 j0 => guardT v j0 (fun m0 => neqS i0 (V.s 1 123) fun n0 => m0 n0 j0) fun o0 p0 => guardF m p0 (fun q0 => pickV v o0 (V.t false) fun r0 => q0 r0 p0) fun s0 t0 => pickV m (V.t true) s0 fun u0 => condV u0 (sl0 d g fun v0 => sl1 a v0 fun w0 => j X.r w0 t0) (j X.n g t0)
def F382_1 : M := fun a b c => cf 333 (vc a.c0.c2 V.nil) b fun d g => ext 0 d fun i => ext 1 d fun j => app 1 3 a.c0.c3 i g fun m n => sl0 m a fun o => sl1 j o fun p => c X.r p n
def F382_2 (a b : V) : M := fun c d g => sl0 vN c fun i => sl1 (V.x .inil V.nil V.nil) i fun j => cf 381 (vc a V.nil) d fun m n => ext 0 m fun o => ext 1 m fun p => sl3 o j fun q => seqM (F382_0 cf p b a o) (F382_1 cf) q n g
def T382 (cf : CallF) (lf : Nat) : V → H → KV → Bool := fun l h k => onCons l fun a b => onCons b fun c d => onNil d ((F382_2 cf a c) (⟨⟨V.u, V.u, a, V.u, V.u, V.u, V.u, V.u⟩, n8 V.u, n8 V.u, n8 V.u, n8 V.u, n8 V.u, n8 V.u, n8 V.u⟩ : L8) h fun x e h => finK (fun e h k => k (V.x .tup (vc e.c0.c0 (vc e.c0.c1 V.nil)) V.nil)) k x e h)
theorem e382 : FnEq Tryz.prog G LF OF 382 T382 := fun cf lf => by kernel_rfl
theorem c382 : chkF Tryz.prog LF OF 382 = true := by kernel_rfl
def F388_0 (a : V) : M := fun b c d => cf 360 (vc a (vc (V.s 1 40) V.nil)) c fun g i => notV g fun j => condV j (sl0 vN b fun m => sl1 (V.x .inil V.nil V.nil) m fun n => d X.r n i) (d X.n b i)
def F388_1 : M := fun a b c => cf 362 (vc a.c0.c2 (vc (V.s 1 41) (vc (V.x (.func 391) (vc a.c0.c2 V.nil) V.nil) V.nil))) b fun d g => ext 0 d fun i => ext 1 d fun j => cf 297 (vc (V.s 9 2129765323153231802977) (vc j V.nil)) g fun m n => sl0 i a fun o => sl1 m o fun p => c X.r p n
def F388_2 (a : V) : M := fun b c d => sl0 vN b fun g => sl1 (V.x .inil V.nil V.nil) g fun i => seqM (F388_0 cf a) (F388_1 cf) i c d
def T388 (cf : CallF) (lf : Nat) : V → H → KV → Bool := fun l h k => onCons l fun a b => onNil b ((F388_2 cf a) (⟨⟨V.u, V.u, a, V.u, V.u, V.u, V.u, V.u⟩, n8 V.u, n8 V.u, n8 V.u, n8 V.u, n8 V.u, n8 V.u, n8 V.u⟩ : L8) h fun x e h => finK (fun e h k => k (V.x .tup (vc e.c0.c0 (vc e.c0.c1 V.nil)) V.nil)) k x e h)
theorem e388 : FnEq Tryz.prog G LF OF 388 T388 := fun cf lf => by kernel_rfl
theorem c388 : chkF Tryz.prog LF OF 388 = true := by kernel_rfl
end
end Go.Bvm.YtfcknednlkfmpaaGreatDoorTL
