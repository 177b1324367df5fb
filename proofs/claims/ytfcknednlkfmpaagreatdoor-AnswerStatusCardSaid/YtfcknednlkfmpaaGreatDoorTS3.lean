/- The functions that this law reaches, as the abstract machine's terms, each held against the program by the kernel. Printed by a program of this session's. Conditions: none. -/
import Derived.Test.YtfcknednlkfmpaaGreatDoorTS0
set_option linter.unusedVariables false
set_option maxRecDepth 100000
namespace Go.Bvm.YtfcknednlkfmpaaGreatDoorTS
open Go.Proofs
noncomputable section
variable (cf : CallF) (lf : Nat)
def F296_0 (a : V) : M := fun b c d => eqlS a (V.s 5 521610294641) fun g => sl2 g b fun i => condV g (d X.n i c) (eqlS a (V.s 8 7957695015159100781) fun j => sl2 j i fun m => d X.n m c)
def F296_1 : M := fun a b c => condV a.c0.c2 (cf 331 (vc a.c0.c3 V.nil) b fun d g => ext 0 d fun i => ext 1 d fun j => sl0 i a fun m => sl1 j m fun n => c X.r n g) (eqlS a.c0.c4 (V.s 8 8389754676398092902) fun o => condV o (cf 332 (vc a.c0.c3 V.nil) b fun p q => ext 0 p fun r => ext 1 p fun s => sl0 r a fun t => sl1 s t fun u => c X.r u q) (c X.n a b))
def F296_2 (a : V) : M := fun b c d => cf 330 (vc a V.nil) c fun g i => sl4 g b fun j => blockM 0 (seqM (F296_0 g) (F296_1 cf)) j i d
def F296_3 : M := fun a b c => cf 333 (vc a.c0.c3 V.nil) b fun d g => ext 0 d fun i => ext 1 d fun j => part 0 true 1 (wI 2) (vc (wI 0) (vc (V.s 0 0) (vc (V.s 0 0) (vc (wI 0) (vc vN V.nil))))) fun m => part 4 true 1 i m fun n => cf 298 (vc a.c0.c3 (vc (V.x .agg n V.nil) (vc j V.nil))) g fun o p => ext 0 o fun q => ext 1 o fun r => sl0 q a fun s => sl1 r s fun t => c X.r t p
def F296_4 (a : V) : M := fun b c d => sl0 (wI 0) b fun g => sl1 (V.x .inil V.nil V.nil) g fun i => seqM (F296_2 cf a) (F296_3 cf) i c d
def T296 (cf : CallF) (lf : Nat) : V → H → KV → Bool := fun l h k => onCons l fun a b => onNil b ((F296_4 cf a) (⟨⟨V.u, V.u, V.u, a, V.u, V.u, V.u, V.u⟩, n8 V.u, n8 V.u, n8 V.u, n8 V.u, n8 V.u, n8 V.u, n8 V.u⟩ : L8) h fun x e h => finK (fun e h k => k (V.x .tup (vc e.c0.c0 (vc e.c0.c1 V.nil)) V.nil)) k x e h)
theorem e296 : FnEq Tryz.prog G LF OF 296 T296 := fun cf lf => by kernel_rfl
theorem c296 : chkF Tryz.prog LF OF 296 = true := by kernel_rfl
def F297_0 (a : V) : M := fun b c d => eqN nilI idB a (V.x .inil V.nil V.nil) fun g => condV g (sl0 (V.x .inil V.nil V.nil) b fun i => d X.r i c) (d X.n b c)
def F297_1 : M := fun a b c => part 0 true 1 a.c0.c1 (vc (V.s 0 0) (vc (V.x .inil V.nil V.nil) V.nil)) fun d => part 1 true 1 a.c0.c2 d fun g => resv 1 b fun i j => newA i false 2 410 (V.x .agg g V.nil) j fun m n => sl0 (V.x (.iface 408) m V.nil) a fun o => c X.r o n
def F297_2 (a : V) : M := fun b c d => sl0 (V.x .inil V.nil V.nil) b fun g => seqM (F297_0 a) (F297_1) g c d
def T297 (cf : CallF) (lf : Nat) : V → H → KV → Bool := fun l h k => onCons l fun a b => onCons b fun c d => onNil d ((F297_2 c) (⟨⟨V.u, a, c, V.u, V.u, V.u, V.u, V.u⟩, n8 V.u, n8 V.u, n8 V.u, n8 V.u, n8 V.u, n8 V.u, n8 V.u⟩ : L8) h fun x e h => finK (fun e h k => k e.c0.c0) k x e h)
theorem e297 : FnEq Tryz.prog G LF OF 297 T297 := fun cf lf => by kernel_rfl
theorem c297 : chkF Tryz.prog LF OF 297 = true := by kernel_rfl
def F298_0 (a : V) : M := fun b c d => eqN nilI nots a (V.x .inil V.nil V.nil) fun g => condV g (sl0 (wI 0) b fun i => sl1 a i fun j => d X.r j c) (d X.n b c)
def F298_1 (a : H) (b : L8) (c : KX) := resv 1 a fun d g => nilckV b.c0.c2 fun i => fadV 0 i fun j => ld1 j g fun m => nilckV b.c0.c2 fun n => fadV 1 n fun o => ld1 o g fun p => subW p (wI 1) fun q => iadV 2 m q fun r => fadV 1 r fun s => ld1 s g fun t => part 0 true 1 (wI 2) (vc (wI 0) (vc (wI 0) V.nil)) fun u => part 1 true 1 t u fun v => newA (Nat.add d 0) false 2 330 (V.x .agg v V.nil) g fun w y => sl0 (wI 0) b fun a0 => sl1 (V.x (.iface 325) w V.nil) a0 fun b0 => c X.r b0 y
def F298_2 : M := fun a b c => nilckV a.c0.c2 fun d => fadV 3 d fun g => ld1 g b fun i => lenL i fun j => geqV j (wI 300) fun m => condV m (F298_1 b a c) (c X.n a b)
def F298_3 : M := fun a b c => resv 1 b fun d g => nilckV a.c0.c2 fun i => fadV 3 i fun j => ld1 j g fun m => lda 5 a.c0.c3 g fun n => part 0 false 5 n (vc (wI 0) (vc (V.s 0 0) (vc (V.s 0 0) (vc (wI 0) (vc vN V.nil))))) fun o => bslA (Nat.add d 0) 1 5 107 o g fun p q => app 5 107 m p q fun r s => nilckV a.c0.c2 fun t => fadV 3 t fun u => st true 1 u r s fun v w => nilckV a.c0.c2 fun y => fadV 3 y fun a0 => ld1 a0 w fun b0 => lenL b0 fun c0 => subW c0 (wI 1) fun d0 => sl0 d0 a fun g0 => sl1 (V.x .inil V.nil V.nil) g0 fun i0 => c X.r i0 w
def F298_4 (a b : V) : M := fun c d g => resv 1 d fun i j => newA i false 5 107 a j fun m n => sl3 m c fun o => sl0 (wI 0) o fun p => sl1 (V.x .inil V.nil V.nil) p fun q => seqM (F298_0 b) (seqM (F298_2) (F298_3)) q n g
def T298 (cf : CallF) (lf : Nat) : V → H → KV → Bool := fun l h k => onCons l fun a b => onCons b fun c d => onCons d fun g i => onNil i ((F298_4 c g) (⟨⟨V.u, V.u, a, V.u, V.u, V.u, V.u, V.u⟩, n8 V.u, n8 V.u, n8 V.u, n8 V.u, n8 V.u, n8 V.u, n8 V.u⟩ : L8) h fun x e h => finK (fun e h k => k (V.x .tup (vc e.c0.c0 (vc e.c0.c1 V.nil)) V.nil)) k x e h)
theorem e298 : FnEq Tryz.prog G LF OF 298 T298 := fun cf lf => by kernel_rfl
theorem c298 : chkF Tryz.prog LF OF 298 = true := by kernel_rfl
def F299_0 : M := fun a b c => lenS a.c0.c2 fun d => lssW a.c0.c1 d fun g => guardT g b (fun i => i a.c0.c3 b) fun j m => guardT g m (fun n => n a.c0.c2 m) fun o p => guardT g p (fun q => q a.c0.c1 p) fun r s => guardT g s (fun t => sidxV o r fun u => t u s) fun v w => guardT g w (fun y => callV cf j (vc v V.nil) w fun a0 b0 => y a0 b0) fun c0 d0 => pickV g c0 (V.t false) fun g0 => condV g0 (c X.n a d0) (c (X.x 0) a d0)
def F299_1 : M := fun a b c => addW a.c0.c1 (wI 1) fun d => sl1 d a fun g => c X.n g b
def F299_2 : M := fun a b c => sl0 a.c0.c1 a fun d => c X.r d b
def F299_3 : M := fun a b c => sl0 (wI 0) a fun d => sl1 (wI 0) d fun g => seqM (blockM 0 (loopM lf (seqM (F299_0 cf) (blockM 1 (F299_1))))) (F299_2) g b c
def T299 (cf : CallF) (lf : Nat) : V → H → KV → Bool := fun l h k => onCons l fun a b => onCons b fun c d => onNil d ((F299_3 cf lf) (⟨⟨V.u, V.u, a, c, V.u, V.u, V.u, V.u⟩, n8 V.u, n8 V.u, n8 V.u, n8 V.u, n8 V.u, n8 V.u, n8 V.u⟩ : L8) h fun x e h => finK (fun e h k => k e.c0.c0) k x e h)
theorem e299 : FnEq Tryz.prog G LF OF 299 T299 := fun cf lf => by kernel_rfl
theorem c299 : chkF Tryz.prog LF OF 299 = true := by kernel_rfl
def F300_0 (a : V) : M := fun b c d => sl0 (V.t false) b fun g => cf 191 (vc a V.nil) c fun i j => guardF i j (fun m => m a j) fun n o => guardF i o (fun p => cf 301 (vc n V.nil) o fun q r => p q r) fun s t => pickV i (V.t true) s fun u => sl0 u g fun v => d X.r v t
def T300 (cf : CallF) (lf : Nat) : V → H → KV → Bool := fun l h k => onCons l fun a b => onNil b ((F300_0 cf a) (⟨n8 V.u, n8 V.u, n8 V.u, n8 V.u, n8 V.u, n8 V.u, n8 V.u, n8 V.u⟩ : L8) h fun x e h => finK (fun e h k => k e.c0.c0) k x e h)
theorem e300 : FnEq Tryz.prog G LF OF 300 T300 := fun cf lf => by kernel_rfl
theorem c300 : chkF Tryz.prog LF OF 300 = true := by kernel_rfl
def F301_0 (a : V) : M := fun b c d => sl0 (V.t false) b fun g => geqY a (V.y 48) fun i => guardT i c (fun j => j a c) fun m n => guardT i n (fun o => leqY m (V.y 57) fun p => o p n) fun q r => pickV i q (V.t false) fun s => sl0 s g fun t => d X.r t r
def T301 (cf : CallF) (lf : Nat) : V → H → KV → Bool := fun l h k => onCons l fun a b => onNil b ((F301_0 a) (⟨n8 V.u, n8 V.u, n8 V.u, n8 V.u, n8 V.u, n8 V.u, n8 V.u, n8 V.u⟩ : L8) h fun x e h => finK (fun e h k => k e.c0.c0) k x e h)
theorem e301 : FnEq Tryz.prog G LF OF 301 T301 := fun cf lf => by kernel_rfl
theorem c301 : chkF Tryz.prog LF OF 301 = true := by kernel_rfl
def F302_0 (a : V) : M := fun b c d => cf 304 (vc a (vc (V.s 1 45) V.nil)) c fun g i => condV g (d (X.x 1) b i) (d X.n b i)
def F302_1 : M := fun a b c => sl4 (V.w 9223372036854775807) a fun d => sl1 (wI 1) d fun g => c X.n g b
def F302_2 : M := fun a b c => lenS a.c0.c3 fun d => lssW a.c0.c1 d fun g => guardT g b (fun i => i a.c0.c3 b) fun j m => guardT g m (fun n => n a.c0.c1 m) fun o p => guardT g p (fun q => sidxV j o fun r => q r p) fun s t => guardT g t (fun u => cf 334 (vc s V.nil) t fun v w => u v w) fun y a0 => pickV g y (V.t false) fun b0 => condV b0 (c X.n a a0) (c (X.x 3) a a0)
def F302_3 : M := fun a b c => leqW a.c0.c0 (V.w 9223372037928517632) fun d => condV d (mulV a.c0.c0 (wI 10) fun g => sidxV a.c0.c3 a.c0.c1 fun i => subY i (V.y 48) fun j => toW j fun m => addW g m fun n => sl0 n a fun o => c X.n o b) (c X.n a b)
def F302_4 : M := fun a b c => addW a.c0.c1 (wI 1) fun d => sl1 d a fun g => c X.n g b
def F302_5 (a : L8) : M := fun b c d => lssW b.c0.c4 (wI 0) fun g => condV g (subW a.c0.c1 (wI 1) fun i => sl5 i b fun j => d X.n j c) (d X.n b c)
def F302_6 (a : V) (b : H) (c : V) (d : L8) (g : KX) := guardF a b (fun i => eqlY c (V.y 48) fun j => i j b) fun m n => guardF a n (fun o => o m n) fun p q => guardT p q (fun r => r d.c0.c5 q) fun s t => guardT p t (fun u => gtrW s (wI 1) fun v => u v t) fun w y => guardT p y (fun a0 => a0 w y) fun b0 c0 => guardF b0 c0 (fun d0 => d0 d.c0.c4 c0) fun g0 i0 => guardF b0 i0 (fun j0 => lssW g0 (wI 0) fun m0 => j0 m0 i0) fun n0 o0 => guardT p o0 (fun p0 => pickV b0 (V.t true) n0 fun q0 => p0 q0 o0) fun r0 s0 => guardF a s0 (fun t0 => pickV p r0 (V.t false) fun u0 => t0 u0 s0) fun v0 w0 => pickV a (V.t true) v0 fun y0 => condV y0 (sl0 (wI 0) d fun a1 => sl1 d.c0.c1 a1 fun b1 => sl2 (V.t false) b1 fun c1 => g X.r c1 w0) (g X.n d w0)
def F302_7 (a : V) : M := fun b c d => eqlW b.c0.c5 (wI 0) fun g => guardF g c (fun i => i b.c0.c0 c) fun j m => guardF g m (fun n => gtrW j (V.w 9223372037928517632) fun o => n o m) fun p q => pickV g (V.t true) p fun r => guardF r q (fun s => s b.c0.c3 q) fun t u => guardF r u (fun v => v a u) fun w y => guardF r y (fun a0 => sidxV t w fun b0 => a0 b0 y) fun c0 d0 => F302_6 r d0 c0 b d
def F302_8 : M := fun a b c => mulV a.c0.c4 a.c0.c0 fun d => sl0 d a fun g => sl1 a.c0.c1 g fun i => sl2 (V.t true) i fun j => c X.r j b
def F302_9 : M := fun a b c => subW a.c0.c1 a.c0.c5 fun d => seqM (F302_7 d) (F302_8) a b c
def F302_10 : M := fun a b c => sl5 a.c0.c1 a fun d => seqM (F302_5 a) (F302_9) d b c
def F302_11 (a : V) : M := fun b c d => sl0 (wI 0) b fun g => sl1 (wI 0) g fun i => sl2 (V.t false) i fun j => sl4 (wI 1) j fun m => seqM (blockM 0 (seqM (blockM 2 (seqM (blockM 1 (seqM (F302_0 cf a) (fun n o p => p (X.x 2) n o))) (F302_1))) (seqM (blockM 3 (loopM lf (seqM (F302_2 cf) (blockM 4 (seqM (F302_3) (F302_4)))))) (fun q r s => s (X.x 0) q r)))) (F302_10) m c d
def T302 (cf : CallF) (lf : Nat) : V → H → KV → Bool := fun l h k => onCons l fun a b => onNil b ((F302_11 cf lf a) (⟨⟨V.u, V.u, V.u, a, V.u, V.u, V.u, V.u⟩, n8 V.u, n8 V.u, n8 V.u, n8 V.u, n8 V.u, n8 V.u, n8 V.u⟩ : L8) h fun x e h => finK (fun e h k => k (V.x .tup (vc e.c0.c0 (vc e.c0.c1 (vc e.c0.c2 V.nil))) V.nil)) k x e h)
theorem e302 : FnEq Tryz.prog G LF OF 302 T302 := fun cf lf => by kernel_rfl
theorem c302 : chkF Tryz.prog LF OF 302 = true := by kernel_rfl
def F303_0 : M := fun a b c => lenS a.c0.c4 fun d => lssW a.c0.c3 d fun g => condV g (c X.n a b) (c (X.x 0) a b)
def F303_1 (a : V) (b : H) (c : L8) (d g : V) (i : KX) := guardT a b (fun j => j c.c0.c4 b) fun m n => guardT a n (fun o => o d n) fun p q => guardT a q (fun r => sidxV m p fun s => r s q) fun t u => guardT a u (fun v => neqY t (V.y 92) fun w => v w u) fun y a0 => guardF g a0 (fun b0 => pickV a y (V.t false) fun c0 => b0 c0 a0) fun d0 g0 => pickV g (V.t true) d0 fun i0 => condV i0 (sl0 (V.s 0 0) c fun j0 => sl1 (wI 0) j0 fun m0 => sl2 (V.t false) m0 fun n0 => i X.r n0 g0) (i X.n c g0)
def F303_2 (a : V) : M := fun b c d => lenS b.c0.c4 fun g => geqV a g fun i => guardF i c (fun j => j b.c0.c4 c) fun m n => guardF i n (fun o => o a n) fun p q => guardF i q (fun r => sidxV m p fun s => r s q) fun t u => guardF i u (fun v => neqY t (V.y 34) fun w => v w u) fun y a0 => guardF i a0 (fun b0 => b0 y a0) fun c0 d0 => F303_1 c0 d0 b a i d
def F303_3 : M := fun a b c => sidxV a.c0.c4 a.c0.c3 fun d => sl6 d a fun g => c X.n g b
def F303_4 (a : V) (b : H) (c : L8) (d : KX) := lssY a (V.y 32) fun g => guardF g b (fun i => i a b) fun j m => guardF g m (fun n => gtrY j (V.y 126) fun o => n o m) fun p q => pickV g (V.t true) p fun r => condV r (sl0 (V.s 0 0) c fun s => sl1 (wI 0) s fun t => sl2 (V.t false) t fun u => d X.r u q) (eqlY a (V.y 92) fun v => condV v (addW c.c0.c3 (wI 1) fun w => sl3 w c fun y => seqM (F303_2 w) (F303_3) y q d) (d X.n c q))
def F303_5 (a : V) : M := fun b c d => eqlY a (V.y 34) fun g => condV g (cf 247 (vc b.c0.c5 V.nil) c fun i j => addW b.c0.c3 (wI 1) fun m => sl0 i b fun n => sl1 m n fun o => sl2 (V.t true) o fun p => d X.r p j) (F303_4 a c b d)
def F303_6 : M := fun a b c => cf 335 (vc a.c0.c5 (vc a.c0.c6 V.nil)) b fun d g => c X.n a g
def F303_7 : M := fun a b c => sidxV a.c0.c4 a.c0.c3 fun d => sl6 d a fun g => seqM (blockM 2 (F303_5 cf d)) (F303_6 cf) g b c
def F303_8 : M := fun a b c => addW a.c0.c3 (wI 1) fun d => sl3 d a fun g => c X.n g b
def F303_9 : M := fun a b c => sl3 (wI 1) a fun d => blockM 0 (loopM lf (seqM (F303_0) (seqM (blockM 1 (F303_7 cf)) (F303_8)))) d b c
def F303_10 : M := fun a b c => sl0 (V.s 0 0) a fun d => sl1 (wI 0) d fun g => sl2 (V.t false) g fun i => c X.r i b
def F303_11 : M := fun a b c => sl0 (V.s 0 0) a fun d => sl1 (wI 0) d fun g => sl2 (V.t false) g fun i => resv 1 b fun j m => newA j false 2 315 (V.x .agg (vc (V.x .pnil V.nil V.nil) (vc vN V.nil)) V.nil) m fun n o => sl5 n i fun p => seqM (F303_9 cf lf) (F303_10) p o c
def T303 (cf : CallF) (lf : Nat) : V → H → KV → Bool := fun l h k => onCons l fun a b => onNil b ((F303_11 cf lf) (⟨⟨V.u, V.u, V.u, V.u, a, V.u, V.u, V.u⟩, n8 V.u, n8 V.u, n8 V.u, n8 V.u, n8 V.u, n8 V.u, n8 V.u⟩ : L8) h fun x e h => finK (fun e h k => k (V.x .tup (vc e.c0.c0 (vc e.c0.c1 (vc e.c0.c2 V.nil))) V.nil)) k x e h)
theorem e303 : FnEq Tryz.prog G LF OF 303 T303 := fun cf lf => by kernel_rfl
theorem c303 : chkF Tryz.prog LF OF 303 = true := by kernel_rfl
def F304_0 (a b : V) : M := fun c d g => sl0 (V.t false) c fun i => cf 336 (vc a (vc b V.nil)) d fun j m => sl0 j i fun n => g X.r n m
def T304 (cf : CallF) (lf : Nat) : V → H → KV → Bool := fun l h k => onCons l fun a b => onCons b fun c d => onNil d ((F304_0 cf a c) (⟨n8 V.u, n8 V.u, n8 V.u, n8 V.u, n8 V.u, n8 V.u, n8 V.u, n8 V.u⟩ : L8) h fun x e h => finK (fun e h k => k e.c0.c0) k x e h)
theorem e304 : FnEq Tryz.prog G LF OF 304 T304 := fun cf lf => by kernel_rfl
theorem c304 : chkF Tryz.prog LF OF 304 = true := by kernel_rfl
def F305_0 (a b : V) : M := fun c d g => sl0 (wI 0) c fun i => cf 337 (vc a (vc b V.nil)) d fun j m => sl0 j i fun n => g X.r n m
def T305 (cf : CallF) (lf : Nat) : V → H → KV → Bool := fun l h k => onCons l fun a b => onCons b fun c d => onNil d ((F305_0 cf a c) (⟨n8 V.u, n8 V.u, n8 V.u, n8 V.u, n8 V.u, n8 V.u, n8 V.u, n8 V.u⟩ : L8) h fun x e h => finK (fun e h k => k e.c0.c0) k x e h)
theorem e305 : FnEq Tryz.prog G LF OF 305 T305 := fun cf lf => by kernel_rfl
theorem c305 : chkF Tryz.prog LF OF 305 = true := by kernel_rfl
def F309_0 (a : V) : M := fun b c d => condV a (d X.n b c) (d (X.x 0) b c)
def F309_1 : M := fun a b c => iadV 5 a.c0.c4 a.c0.c1 fun d => lda 5 d b fun g => callV cf a.c0.c3 (vc g V.nil) b fun i j => condV i (sl0 a.c0.c1 a fun m => c X.r m j) (c X.n a j)
def F309_2 : M := fun a b c => addW a.c0.c1 (wI 1) fun d => sl1 d a fun g => c X.n g b
def F309_3 : M := fun a b c => lssW a.c0.c1 a.c0.c2 fun d => seqM (F309_0 d) (seqM (blockM 1 (F309_1 cf)) (F309_2)) a b c
def F309_4 (a : V) : M := fun b c d => lenL a fun g => sl2 g b fun i => sl1 (wI 0) i fun j => blockM 0 (loopM lf (F309_3 cf)) j c d
def F309_5 : M := fun a b c => sl0 (V.w 9223372036854775807) a fun d => c X.r d b
def F309_6 (a : V) : M := fun b c d => sl0 (wI 0) b fun g => seqM (F309_4 cf lf a) (F309_5) g c d
def T309 (cf : CallF) (lf : Nat) : V → H → KV → Bool := fun l h k => onCons l fun a b => onCons b fun c d => onNil d ((F309_6 cf lf a) (⟨⟨V.u, V.u, V.u, c, a, V.u, V.u, V.u⟩, n8 V.u, n8 V.u, n8 V.u, n8 V.u, n8 V.u, n8 V.u, n8 V.u⟩ : L8) h fun x e h => finK (fun e h k => k e.c0.c0) k x e h)
theorem e309 : FnEq Tryz.prog G LF OF 309 T309 := fun cf lf => by kernel_rfl
theorem c309 : chkF Tryz.prog LF OF 309 = true := by kernel_rfl
def F310_0 (a b : V) : M := fun c d g => resv 1 d fun i j => newA i false 5 107 a j fun m n => sl0 (V.t false) c fun o => fadV 0 m fun p => ld1 p n fun q => eqlW q (wI 9) fun r => guardT r n (fun s => fadV 1 m fun t => s t n) fun u v => guardT r v (fun w => ld1 u v fun y => w y v) fun a0 b0 => guardT r b0 (fun c0 => ld1 b b0 fun d0 => c0 d0 b0) fun g0 i0 => guardT r i0 (fun j0 => eqlS a0 g0 fun m0 => j0 m0 i0) fun n0 o0 => pickV r n0 (V.t false) fun p0 => sl0 p0 o fun q0 => g X.r q0 o0
def T310 (cf : CallF) (lf : Nat) : V → H → KV → Bool := fun l h k => onCons l fun a b => onCons b fun c d => onNil d ((F310_0 a c) (⟨n8 V.u, n8 V.u, n8 V.u, n8 V.u, n8 V.u, n8 V.u, n8 V.u, n8 V.u⟩ : L8) h fun x e h => finK (fun e h k => k e.c0.c0) k x e h)
theorem e310 : FnEq Tryz.prog G LF OF 310 T310 := fun cf lf => by kernel_rfl
theorem c310 : chkF Tryz.prog LF OF 310 = true := by kernel_rfl
def F311_0 (a : V) : M := fun b c d => condV a (d X.n b c) (d (X.x 0) b c)
def F311_1 (a : H) (b : L8) (c : V) (d : KX) := resv 1 a fun g i => nilckV b.c0.c4 fun j => fadV 0 j fun m => ld1 m i fun n => nilckV b.c0.c4 fun o => fadV 0 o fun p => ld1 p i fun q => iadV 5 q c fun r => fadV 1 r fun s => ld1 s i fun t => cf 257 (vc n (vc t V.nil)) i fun u v => part 0 true 1 u (vc (wI 0) V.nil) fun w => bslA (Nat.add g 0) 1 1 3 w v fun y a0 => app 1 3 b.c0.c0 y a0 fun b0 c0 => sl0 b0 b fun d0 => d (X.x 1) d0 c0
def F311_2 (a : V) : M := fun b c d => nilckV b.c0.c4 fun g => fadV 0 g fun i => ld1 i c fun j => iadV 5 j a fun m => fadV 0 m fun n => ld1 n c fun o => eqlW o (wI 7) fun p => condV p (F311_1 cf c b a d) (d X.n b c)
def F311_3 : M := fun a b c => cf 311 (vc a.c0.c4 (vc a.c0.c5 V.nil)) b fun d g => app 1 3 a.c0.c0 d g fun i j => sl0 i a fun m => c X.n m j
def F311_4 : M := fun a b c => iadV 1 a.c0.c3 a.c0.c1 fun d => ld1 d b fun g => sl5 g a fun i => seqM (F311_2 cf g) (F311_3 cf) i b c
def F311_5 : M := fun a b c => addW a.c0.c1 (wI 1) fun d => sl1 d a fun g => c X.n g b
def F311_6 : M := fun a b c => lssW a.c0.c1 a.c0.c2 fun d => seqM (F311_0 d) (seqM (blockM 1 (F311_4 cf)) (F311_5)) a b c
def F311_7 (a b : V) : M := fun c d g => nilckV a fun i => fadV 0 i fun j => ld1 j d fun m => iadV 5 m b fun n => fadV 4 n fun o => ld1 o d fun p => sl3 p c fun q => lenL p fun r => sl2 r q fun s => sl1 (wI 0) s fun t => blockM 0 (loopM lf (F311_6 cf)) t d g
def F311_8 : M := fun a b c => sl0 a.c0.c0 a fun d => c X.r d b
def F311_9 (a b : V) : M := fun c d g => sl0 vN c fun i => seqM (F311_7 cf lf a b) (F311_8) i d g
def T311 (cf : CallF) (lf : Nat) : V → H → KV → Bool := fun l h k => onCons l fun a b => onCons b fun c d => onNil d ((F311_9 cf lf a c) (⟨⟨V.u, V.u, V.u, V.u, a, V.u, V.u, V.u⟩, n8 V.u, n8 V.u, n8 V.u, n8 V.u, n8 V.u, n8 V.u, n8 V.u⟩ : L8) h fun x e h => finK (fun e h k => k e.c0.c0) k x e h)
theorem e311 : FnEq Tryz.prog G LF OF 311 T311 := fun cf lf => by kernel_rfl
theorem c311 : chkF Tryz.prog LF OF 311 = true := by kernel_rfl
def F312_0 (a : H) (b c d : V) (g : L8) (i : KX) := part 0 true 1 (V.s 3 7301239) (vc (V.s 0 0) (vc (V.s 0 0) V.nil)) fun j => part 1 true 1 (V.s 6 113723913172051) j fun m => part 0 true 1 (V.s 1 110) (vc (V.s 0 0) (vc (V.s 0 0) V.nil)) fun n => part 1 true 1 (V.s 3 7630409) n fun o => resv 1 a fun p q => part 0 false 2 (V.x .agg m V.nil) (vc (V.s 0 0) (vc (V.s 0 0) (vc (V.s 0 0) (vc (V.s 0 0) V.nil)))) fun r => part 2 false 2 (V.x .agg o V.nil) r fun s => bslA p 2 2 413 s q fun t u => part 0 true 1 (V.s 4 1885697107) (vc (V.s 0 0) (vc vN V.nil)) fun v => part 1 true 1 t v fun w => cf 139 (vc b (vc c V.nil)) u fun y a0 => geqV y (wI 0) fun b0 => st false 2 d (V.x .agg w V.nil) a0 fun c0 d0 => sl1 b0 g fun g0 => i X.r g0 d0
def F312_1 (a b c d : V) : M := fun g i j => eqlS a (V.s 8 7957695015159100749) fun m => condV m (F312_0 cf i b c d g j) (j X.n g i)
def F312_2 : M := fun a b c => cf 340 (vc a.c0.c2 V.nil) b fun d g => mpL true (V.x .agg (vc (V.s 0 0) (vc vN V.nil)) V.nil) d a.c0.c3 g fun i => ext 0 i fun j => ext 1 i fun m => resv 1 g fun n o => newA n false 2 383 (V.x .agg (vc (V.s 0 0) (vc vN V.nil)) V.nil) o fun p q => st false 2 p j q fun r s => lda 2 p s fun t => st false 2 a.c0.c0 t s fun u v => sl1 m a fun w => c X.r w v
def F312_3 (a b c : V) : M := fun d g i => resv 1 g fun j m => newA j false 2 383 (V.x .agg (vc (V.s 0 0) (vc vN V.nil)) V.nil) m fun n o => sl0 n d fun p => sl1 (V.t false) p fun q => seqM (F312_1 cf a b c n) (F312_2 cf) q o i
def T312 (cf : CallF) (lf : Nat) : V → H → KV → Bool := fun l h k => onCons l fun a b => onCons b fun c d => onCons d fun g i => onNil i ((F312_3 cf a g c) (⟨⟨V.u, V.u, a, c, V.u, V.u, V.u, V.u⟩, n8 V.u, n8 V.u, n8 V.u, n8 V.u, n8 V.u, n8 V.u, n8 V.u⟩ : L8) h fun x e h => finK (fun e h k => lda 2 e.c0.c0 h fun z0 => k (V.x .tup (vc z0 (vc e.c0.c1 V.nil)) V.nil)) k x e h)
theorem e312 : FnEq Tryz.prog G LF OF 312 T312 := fun cf lf => by kernel_rfl
theorem c312 : chkF Tryz.prog LF OF 312 = true := by kernel_rfl
def F313_0 (a : V) : M := fun b c d => condV a (d X.n b c) (d (X.x 0) b c)
def F313_1 (a : V) : M := fun b c d => fadV 0 a fun g => ld1 g c fun i => neqW i (wI 5) fun j => condV j (d (X.x 1) b c) (d X.n b c)
def F313_2 (a : L8) (b : H) (c : KX) := cf 263 (vc a.c0.c6 (vc (V.x (.func 343) V.nil (vc a.c0.c5 V.nil)) V.nil)) b fun d g => notV d fun i => cf 204 (vc a.c0.c3 (vc i (vc (wI 5) V.nil))) g fun j m => lda 5 a.c0.c5 m fun n => resv 1 m fun o p => part 0 false 5 n (vc (wI 0) (vc (V.s 0 0) (vc (V.s 0 0) (vc (wI 0) (vc vN V.nil))))) fun q => bslA o 1 5 107 q p fun r s => app 5 107 a.c0.c6 r s fun t u => sl6 t a fun v => c X.n v u
def F313_3 : M := fun a b c => fadV 1 a.c0.c4 fun d => ld1 d b fun g => cf 341 (vc g (vc (V.x (.func 342) V.nil (vc a.c0.c5 V.nil)) V.nil)) b fun i j => cf 204 (vc a.c0.c3 (vc i (vc (wI 5) V.nil))) j fun m n => F313_2 cf a n c
def F313_4 : M := fun a b c => iadV 1 a.c0.c2 a.c0.c0 fun d => ld1 d b fun g => nilckV a.c0.c3 fun i => fadV 0 i fun j => ld1 j b fun m => iadV 5 m g fun n => lda 5 n b fun o => resv 1 b fun p q => newA p false 5 107 (V.x .agg (vc (wI 0) (vc (V.s 0 0) (vc (V.s 0 0) (vc (wI 0) (vc vN V.nil))))) V.nil) q fun r s => sl5 r a fun t => st false 5 r o s fun u v => seqM (F313_1 r) (F313_3 cf) t v c
def F313_5 : M := fun a b c => addW a.c0.c0 (wI 1) fun d => sl0 d a fun g => c X.n g b
def F313_6 : M := fun a b c => lssW a.c0.c0 a.c0.c1 fun d => seqM (F313_0 d) (seqM (blockM 1 (F313_4 cf)) (F313_5)) a b c
def F313_7 (a : V) : M := fun b c d => fadV 4 a fun g => ld1 g c fun i => sl2 i b fun j => lenL i fun m => sl1 m j fun n => sl0 (wI 0) n fun o => blockM 0 (loopM lf (F313_6 cf)) o c d
def F313_8 (a : V) : M := fun b c d => condV a (d X.n b c) (d (X.x 2) b c)
def F313_9 (a : H) (b : L8) (c d : V) (g : KX) := resv 0 a fun i j => nilckV b.c0.c3 fun m => fadV 0 m fun n => ld1 n j fun o => fadV 4 c fun p => ld1 p j fun q => iadV 1 q (wI 0) fun r => ld1 r j fun s => iadV 5 o s fun t => lda 5 t j fun u => fadV 1 b.c0.c4 fun v => ld1 v j fun w => iadV 2 w d fun y => fadV 1 y fun a0 => ld1 a0 j fun b0 => cf 315 (vc b.c0.c3 (vc u (vc b0 V.nil))) j fun c0 d0 => g X.n b d0
def F313_10 : M := fun a b c => iadV 5 a.c1.c1 a.c0.c7 fun d => lda 5 d b fun g => resv 1 b fun i j => newA i false 5 107 (V.x .agg (vc (wI 0) (vc (V.s 0 0) (vc (V.s 0 0) (vc (wI 0) (vc vN V.nil))))) V.nil) j fun m n => st false 5 m g n fun o p => fadV 1 a.c0.c4 fun q => ld1 q p fun r => cf 344 (vc r (vc (V.x (.func 345) V.nil (vc m V.nil)) V.nil)) p fun s t => nilckV a.c0.c3 fun u => fadV 5 u fun v => ld1 v t fun w => eqlW w (wI 0) fun y => condV y (F313_9 cf t a m s c) (c X.n a t)
def F313_11 : M := fun a b c => addW a.c0.c7 (wI 1) fun d => sl7 d a fun g => c X.n g b
def F313_12 : M := fun a b c => lssW a.c0.c7 a.c1.c0 fun d => seqM (F313_8 d) (seqM (blockM 3 (F313_10 cf)) (F313_11)) a b c
def F313_13 : M := fun a b c => lenL a.c0.c6 fun d => fadV 1 a.c0.c4 fun g => ld1 g b fun i => lenL i fun j => eqlW d j fun m => cf 204 (vc a.c0.c3 (vc m (vc (wI 3) V.nil))) b fun n o => sl9 a.c0.c6 a fun p => lenL a.c0.c6 fun q => sl8 q p fun r => sl7 (wI 0) r fun s => blockM 2 (loopM lf (F313_12 cf)) s o c
def F313_14 (a b : V) : M := fun c d g => resv 1 d fun i j => newA i false 5 107 a j fun m n => resv 1 n fun o p => newA o false 2 383 b p fun q r => sl4 q c fun s => sl6 vN s fun t => seqM (F313_7 cf lf m) (F313_13 cf lf) t r g
def T313 (cf : CallF) (lf : Nat) : V → H → KV → Bool := fun l h k => onCons l fun a b => onCons b fun c d => onCons d fun g i => onNil i ((F313_14 cf lf c g) (⟨⟨V.u, V.u, V.u, a, V.u, V.u, V.u, V.u⟩, n8 V.u, n8 V.u, n8 V.u, n8 V.u, n8 V.u, n8 V.u, n8 V.u⟩ : L8) h fun x e h => finK (fun e h k => k (V.x .tup V.nil V.nil)) k x e h)
theorem e313 : FnEq Tryz.prog G LF OF 313 T313 := fun cf lf => by kernel_rfl
theorem c313 : chkF Tryz.prog LF OF 313 = true := by kernel_rfl
def F314_0 (a : V) : M := fun b c d => eqlS a (V.s 4 1634165075) fun g => sl1 g b fun i => condV g (d X.n i c) (eqlS a (V.s 4 1885697107) fun j => sl1 j i fun m => d X.n m c)
def F314_1 : M := fun a b c => condV a.c0.c1 (sl0 a.c0.c2 a fun d => c X.r d b) (eqlS a.c0.c3 (V.s 5 495555404115) fun g => condV g (sl0 (V.s 4 1634165075) a fun i => c X.r i b) (eqlS a.c0.c3 (V.s 7 32481125887929925) fun j => condV j (sl0 (V.s 5 521611275845) a fun m => c X.r m b) (c X.n a b)))
def F314_2 (a : V) : M := fun b c d => sl3 a b fun g => blockM 0 (seqM (F314_0 a) (F314_1)) g c d
def F314_3 : M := fun a b c => sl0 (V.s 0 0) a fun d => c X.r d b
def F314_4 (a : V) : M := fun b c d => sl0 (V.s 0 0) b fun g => seqM (F314_2 a) (F314_3) g c d
def T314 (cf : CallF) (lf : Nat) : V → H → KV → Bool := fun l h k => onCons l fun a b => onNil b ((F314_4 a) (⟨⟨V.u, V.u, a, V.u, V.u, V.u, V.u, V.u⟩, n8 V.u, n8 V.u, n8 V.u, n8 V.u, n8 V.u, n8 V.u, n8 V.u⟩ : L8) h fun x e h => finK (fun e h k => k e.c0.c0) k x e h)
theorem e314 : FnEq Tryz.prog G LF OF 314 T314 := fun cf lf => by kernel_rfl
theorem c314 : chkF Tryz.prog LF OF 314 = true := by kernel_rfl
def F315_0 (a b c : V) : M := fun d g i => fadV 0 a fun j => ld1 j g fun m => eqlW m (wI 14) fun n => condV n (lda 5 a g fun o => cf 346 (vc b (vc o (vc c V.nil))) g fun p q => i X.r d q) (i X.n d g)
def F315_1 : M := fun a b c => fadV 0 a.c0.c1 fun d => ld1 d b fun g => resv 1 b fun i j => mapA i j fun m n => mpI m (V.s 3 7630409) (wI 10) n fun o p => mpI m (V.s 6 113723913172051) (wI 11) p fun q r => mpI m (V.s 7 31069335677005634) (wI 12) r fun s t => mpL false (wI 0) m a.c0.c2 t fun u => eqlW g u fun v => cf 204 (vc a.c0.c0 (vc v (vc (wI 6) V.nil))) t fun w y => c X.n a y
def F315_2 (a b c : V) : M := fun d g i => resv 1 g fun j m => newA j false 5 107 a m fun n o => sl1 n d fun p => seqM (F315_0 cf n b c) (F315_1 cf) p o i
def T315 (cf : CallF) (lf : Nat) : V → H → KV → Bool := fun l h k => onCons l fun a b => onCons b fun c d => onCons d fun g i => onNil i ((F315_2 cf c a g) (⟨⟨a, V.u, g, V.u, V.u, V.u, V.u, V.u⟩, n8 V.u, n8 V.u, n8 V.u, n8 V.u, n8 V.u, n8 V.u, n8 V.u⟩ : L8) h fun x e h => finK (fun e h k => k (V.x .tup V.nil V.nil)) k x e h)
theorem e315 : FnEq Tryz.prog G LF OF 315 T315 := fun cf lf => by kernel_rfl
theorem c315 : chkF Tryz.prog LF OF 315 = true := by kernel_rfl
def F316_0 (a : V) : M := fun b c d => leqW a (wI 12) fun g => condV g (cf 347 (vc b.c0.c2 (vc b.c0.c1 (vc b.c0.c0 (vc b.c0.c3 V.nil)))) c fun i j => d X.r b j) (d X.n b c)
def F316_1 : M := fun a b c => eqlW a.c0.c4 (wI 0) fun d => condV d (cf 348 (vc a.c0.c2 (vc a.c0.c1 (vc a.c0.c0 (vc a.c0.c3 V.nil)))) b fun g i => c X.r a i) (c X.n a b)
def F316_2 : M := fun a b c => notV a.c0.c5 fun d => condV d (cf 349 (vc a.c0.c2 (vc a.c0.c1 (vc a.c0.c0 (vc a.c0.c3 V.nil)))) b fun g i => subW a.c0.c4 (wI 1) fun j => sl4 j a fun m => c X.n m i) (c X.n a b)
def F316_3 (a b : V) : M := fun c d g => eqlW a (wI 2) fun i => condV i (cf 351 (vc c.c0.c2 (vc c.c0.c1 (vc c.c0.c0 (vc c.c0.c3 V.nil)))) d fun j m => subW c.c0.c0 (wI 1) fun n => subW b c.c0.c1 fun o => subW n o fun p => sl8 p c fun q => sl7 (wI 1) q fun r => g X.n r m) (g X.n c d)
def F316_4 : M := fun a b c => guardT a.c0.c5 b (fun d => d a.c0.c6 b) fun g i => pickV a.c0.c5 g (V.t false) fun j => guardT j i (fun m => m a.c0.c7 i) fun n o => guardT j o (fun p => eqlW n (wI 1) fun q => p q o) fun r s => pickV j r (V.t false) fun t => condV t (cf 352 (vc a.c0.c2 (vc a.c0.c1 (vc a.c0.c0 (vc a.c0.c3 V.nil)))) s fun u v => condV u (c X.r a v) (c X.n a v)) (c X.n a s)
def F316_5 (a : V) (b : H) (c d : V) (g : L8) (i : V) (j : KX) := guardT a b (fun m => iadV 4 c d fun n => m n b) fun o p => guardT a p (fun q => lda 4 o p fun r => q r p) fun s t => guardT a t (fun u => u g.c0.c3 t) fun v w => guardT a w (fun y => callV cf v (vc i (vc s V.nil)) w fun a0 b0 => y a0 b0) fun c0 d0 => guardT a d0 (fun g0 => lssW c0 (wI 0) fun i0 => g0 i0 d0) fun j0 m0 => guardT a m0 (fun n0 => notV j0 fun o0 => n0 o0 m0) fun p0 q0 => pickV a p0 (V.t false) fun r0 => condV r0 (cf 353 (vc g.c0.c2 (vc g.c0.c1 (vc g.c0.c0 (vc g.c1.c0 (vc g.c0.c3 V.nil))))) q0 fun s0 t0 => sl1 s0 g fun u0 => j (X.x 1) u0 t0) (j X.n g q0)
def F316_6 : M := fun a b c => resv 0 b fun d g => gtrW a.c0.c1 (wI 0) fun i => guardT i g (fun j => j a.c0.c2 g) fun m n => guardT i n (fun o => o a.c0.c1 n) fun p q => guardT i q (fun r => subW p (wI 1) fun s => r s q) fun t u => guardT i u (fun v => iadV 4 m t fun w => v w u) fun y a0 => guardT i a0 (fun b0 => lda 4 y a0 fun c0 => b0 c0 a0) fun d0 g0 => guardT i g0 (fun i0 => i0 a.c0.c2 g0) fun j0 m0 => guardT i m0 (fun n0 => n0 a.c1.c0 m0) fun o0 p0 => F316_5 cf i p0 j0 o0 a d0 c
def F316_7 (a b c : V) (d : L8) (g : V) (i : H) (j : KX) (m : V) := condV a (geqV b c fun n => sl5 n d fun o => cf 316 (vc o.c0.c2 (vc o.c0.c1 (vc g (vc o.c0.c4 (vc o.c0.c3 V.nil))))) i fun p q => addW g (wI 1) fun r => sl1 r o fun s => j X.n s q) (geqV m c fun t => sl5 t d fun u => addW g (wI 1) fun v => cf 316 (vc u.c0.c2 (vc v (vc u.c0.c0 (vc u.c0.c4 (vc u.c0.c3 V.nil))))) i fun w y => sl0 g u fun a0 => j X.n a0 y)
def F316_8 : M := fun a b c => cf 354 (vc a.c0.c2 (vc a.c0.c1 (vc a.c0.c0 (vc a.c1.c0 (vc a.c0.c3 V.nil))))) b fun d g => ext 0 d fun i => ext 1 d fun j => sl6 j a fun m => subW i m.c0.c1 fun n => subW m.c0.c0 i fun o => quoV m.c1.c1 (wI 8) fun p => lssW n o fun q => F316_7 cf q n p m i g c o
def F316_9 : M := fun a b c => cf 350 (vc a.c0.c2 (vc a.c0.c1 (vc a.c0.c0 (vc a.c0.c3 V.nil)))) b fun d g => ext 0 d fun i => ext 1 d fun j => sl8 i a fun m => sl7 j m fun n => seqM (F316_3 cf j i) (seqM (F316_4 cf) (seqM (F316_6 cf) (F316_8 cf))) n g c
def F316_10 : M := fun a b c => subW a.c0.c0 a.c0.c1 fun d => sl9 d a fun g => seqM (F316_0 cf d) (seqM (F316_1 cf) (seqM (F316_2 cf) (F316_9 cf))) g b c
def F316_11 : M := fun a b c => sl5 (V.t true) a fun d => sl6 (V.t true) d fun g => blockM 0 (loopM lf (blockM 1 (F316_10 cf))) g b c
def T316 (cf : CallF) (lf : Nat) : V → H → KV → Bool := fun l h k => onCons l fun a b => onCons b fun c d => onCons d fun g i => onCons i fun j m => onCons m fun n o => onNil o ((F316_11 cf lf) (⟨⟨g, c, a, n, j, V.u, V.u, V.u⟩, n8 V.u, n8 V.u, n8 V.u, n8 V.u, n8 V.u, n8 V.u, n8 V.u⟩ : L8) h fun x e h => finK (fun e h k => k (V.x .tup V.nil V.nil)) k x e h)
theorem e316 : FnEq Tryz.prog G LF OF 316 T316 := fun cf lf => by kernel_rfl
theorem c316 : chkF Tryz.prog LF OF 316 = true := by kernel_rfl
def F317_0 (a : V) : M := fun b c d => condV (V.t false) (toI .u32 a fun g => cf 355 (vc g V.nil) c fun i j => sl0 i b fun m => d X.r m j) (d X.n b c)
def F317_1 : M := fun a b c => cf 356 (vc a.c0.c1 V.nil) b fun d g => sl0 d a fun i => c X.r i g
def F317_2 (a : V) : M := fun b c d => sl0 (wI 0) b fun g => seqM (F317_0 cf a) (F317_1 cf) g c d
def T317 (cf : CallF) (lf : Nat) : V → H → KV → Bool := fun l h k => onCons l fun a b => onNil b ((F317_2 cf a) (⟨⟨V.u, a, V.u, V.u, V.u, V.u, V.u, V.u⟩, n8 V.u, n8 V.u, n8 V.u, n8 V.u, n8 V.u, n8 V.u, n8 V.u⟩ : L8) h fun x e h => finK (fun e h k => k e.c0.c0) k x e h)
theorem e317 : FnEq Tryz.prog G LF OF 317 T317 := fun cf lf => by kernel_rfl
theorem c317 : chkF Tryz.prog LF OF 317 = true := by kernel_rfl
def F318_0 (a : V) : M := fun b c d => sl0 (V.t false) b fun g => neqS a a fun i => sl0 i g fun j => d X.r j c
def T318 (cf : CallF) (lf : Nat) : V → H → KV → Bool := fun l h k => onCons l fun a b => onNil b ((F318_0 a) (⟨n8 V.u, n8 V.u, n8 V.u, n8 V.u, n8 V.u, n8 V.u, n8 V.u, n8 V.u⟩ : L8) h fun x e h => finK (fun e h k => k e.c0.c0) k x e h)
theorem e318 : FnEq Tryz.prog G LF OF 318 T318 := fun cf lf => by kernel_rfl
theorem c318 : chkF Tryz.prog LF OF 318 = true := by kernel_rfl
def F319_0 (a b : V) : M := fun c d g => sl0 (wI 0) c fun i => cf 357 (vc a (vc b (vc (V.t true) V.nil))) d fun j m => sl0 j i fun n => g X.r n m
def T319 (cf : CallF) (lf : Nat) : V → H → KV → Bool := fun l h k => onCons l fun a b => onCons b fun c d => onNil d ((F319_0 cf a c) (⟨n8 V.u, n8 V.u, n8 V.u, n8 V.u, n8 V.u, n8 V.u, n8 V.u, n8 V.u⟩ : L8) h fun x e h => finK (fun e h k => k e.c0.c0) k x e h)
theorem e319 : FnEq Tryz.prog G LF OF 319 T319 := fun cf lf => by kernel_rfl
theorem c319 : chkF Tryz.prog LF OF 319 = true := by kernel_rfl
def F320_0 (a b : V) : M := fun c d g => notV a fun i => condV i (cf 279 (vc b (vc (wI 5) V.nil)) d fun j m => g X.n c m) (g X.n c d)
def F320_1 : M := fun a b c => resv 0 b fun d g => fadV 1 a.c0.c1 fun i => ld1 i g fun j => fadV 2 a.c0.c1 fun m => ld1 m g fun n => fadV 3 a.c0.c1 fun o => ld1 o g fun p => fadV 1 a.c0.c2 fun q => st true 1 q j g fun r s => ld1 m s fun t => both (eqV t n) (ld1 o s fun u => both (eqV u p) (fadV 2 a.c0.c2 fun v => st true 1 v n s fun w y => ld1 o y fun a0 => both (eqV a0 p) (fadV 3 a.c0.c2 fun b0 => st true 1 b0 p y fun c0 d0 => c X.n a d0)))
def F320_2 (a : H) (b c : V) (d : L8) (g : KX) := resv 1 a fun i j => nilckV b fun m => fadV 2 m fun n => ld1 n j fun o => fadV 1 c fun p => ld1 p j fun q => cf 153 (vc o (vc q V.nil)) j fun r s => ext 0 r fun t => ext 1 r fun u => newA (Nat.add i 0) false 4 85 (V.x .agg (vc (V.s 0 0) (vc (wI 0) (vc (wI 0) (vc (V.s 0 0) V.nil)))) V.nil) s fun v w => sl1 v d fun y => st false 4 v t w fun a0 b0 => seqM (F320_0 cf u b) (F320_1) y b0 g
def F320_3 (a : V) (b : H) (c d : V) (g : KX) (i : L8) (j m : V) := condV a (resv 0 b fun n o => fadV 1 c fun p => ld1 p o fun q => fadV 1 d fun r => st true 1 r (wI 5) o fun s t => ld1 p t fun u => both (eqV u q) (fadV 3 d fun v => st true 1 v q t fun w y => g X.n i y)) (eqlW j (wI 12) fun a0 => condV a0 (fadV 3 c fun b0 => ld1 b0 b fun c0 => addW (wI 2) c0 fun d0 => fadV 1 d fun g0 => st true 1 g0 d0 b fun i0 j0 => g X.n i j0) (eqlW j (wI 13) fun m0 => condV m0 (fadV 1 d fun n0 => st true 1 n0 (wI 1) b fun o0 p0 => g X.n i p0) (F320_2 cf b m c i g)))
def F320_4 (a b c d : V) : M := fun g i j => eqlW a (wI 10) fun m => condV m (resv 0 i fun n o => fadV 3 b fun p => ld1 p o fun q => fadV 1 c fun r => st true 1 r (wI 4) o fun s t => ld1 p t fun u => both (eqV u q) (fadV 2 c fun v => st true 1 v q t fun w y => j X.n g y)) (eqlW a (wI 11) fun a0 => F320_3 cf a0 i b c j g a d)
def F320_5 (a b c : V) : M := fun d g i => fadV 0 a fun j => ld1 j g fun m => blockM 0 (F320_4 cf m a b c) d g i
def F320_6 : M := fun a b c => lda 4 a.c0.c2 b fun d => st false 4 a.c0.c0 d b fun g i => c X.r a i
def F320_7 (a b c : V) : M := fun d g i => resv 1 g fun j m => newA j false 5 107 a m fun n o => resv 1 o fun p q => newA p false 4 85 (V.x .agg (vc (V.s 0 0) (vc (wI 0) (vc (wI 0) (vc (V.s 0 0) V.nil)))) V.nil) q fun r s => sl0 r d fun t => part 0 true 1 b (vc (V.s 0 0) (vc (wI 0) (vc (wI 0) (vc (V.s 0 0) V.nil)))) fun u => resv 1 s fun v w => newA v false 4 85 (V.x .agg (vc (V.s 0 0) (vc (wI 0) (vc (wI 0) (vc (V.s 0 0) V.nil)))) V.nil) w fun y a0 => sl2 y t fun b0 => st false 4 y (V.x .agg u V.nil) a0 fun c0 d0 => seqM (F320_5 cf n y c) (F320_6) b0 d0 i
def T320 (cf : CallF) (lf : Nat) : V → H → KV → Bool := fun l h k => onCons l fun a b => onCons b fun c d => onCons d fun g i => onNil i ((F320_7 cf g c a) (⟨n8 V.u, n8 V.u, n8 V.u, n8 V.u, n8 V.u, n8 V.u, n8 V.u, n8 V.u⟩ : L8) h fun x e h => finK (fun e h k => lda 4 e.c0.c0 h k) k x e h)
theorem e320 : FnEq Tryz.prog G LF OF 320 T320 := fun cf lf => by kernel_rfl
theorem c320 : chkF Tryz.prog LF OF 320 = true := by kernel_rfl
def F321_0 (a : V) : M := fun b c d => sl0 (V.s 0 0) b fun g => cf 358 (vc a (vc (wI 10) V.nil)) c fun i j => sl0 i g fun m => d X.r m j
def T321 (cf : CallF) (lf : Nat) : V → H → KV → Bool := fun l h k => onCons l fun a b => onNil b ((F321_0 cf a) (⟨n8 V.u, n8 V.u, n8 V.u, n8 V.u, n8 V.u, n8 V.u, n8 V.u, n8 V.u⟩ : L8) h fun x e h => finK (fun e h k => k e.c0.c0) k x e h)
theorem e321 : FnEq Tryz.prog G LF OF 321 T321 := fun cf lf => by kernel_rfl
theorem c321 : chkF Tryz.prog LF OF 321 = true := by kernel_rfl
def F322_0 (a : V) : M := fun b c d => sl0 (V.s 0 0) b fun g => resv 1 c fun i j => newA i false 2 315 (V.x .agg (vc (V.x .pnil V.nil V.nil) (vc vN V.nil)) V.nil) j fun m n => cf 359 (vc m (vc a V.nil)) n fun o p => cf 247 (vc m V.nil) p fun q r => sl0 q g fun s => d X.r s r
def T322 (cf : CallF) (lf : Nat) : V → H → KV → Bool := fun l h k => onCons l fun a b => onNil b ((F322_0 cf a) (⟨n8 V.u, n8 V.u, n8 V.u, n8 V.u, n8 V.u, n8 V.u, n8 V.u, n8 V.u⟩ : L8) h fun x e h => finK (fun e h k => k e.c0.c0) k x e h)
theorem e322 : FnEq Tryz.prog G LF OF 322 T322 := fun cf lf => by kernel_rfl
theorem c322 : chkF Tryz.prog LF OF 322 = true := by kernel_rfl
def F326_0 (a : V) : M := fun b c d => sl0 (V.t false) b fun g => cf 305 (vc (V.s 5 56005232928) (vc a V.nil)) c fun i j => geqV i (wI 0) fun m => sl0 m g fun n => d X.r n j
def T326 (cf : CallF) (lf : Nat) : V → H → KV → Bool := fun l h k => onCons l fun a b => onNil b ((F326_0 cf a) (⟨n8 V.u, n8 V.u, n8 V.u, n8 V.u, n8 V.u, n8 V.u, n8 V.u, n8 V.u⟩ : L8) h fun x e h => finK (fun e h k => k e.c0.c0) k x e h)
theorem e326 : FnEq Tryz.prog G LF OF 326 T326 := fun cf lf => by kernel_rfl
theorem c326 : chkF Tryz.prog LF OF 326 = true := by kernel_rfl
def F330_0 (a : V) : M := fun b c d => resv 0 c fun g i => nilckV a fun j => fadV 1 j fun m => ld1 m i fun n => nilckV a fun o => fadV 0 o fun p => ld1 p i fun q => lenL q fun r => geqV n r fun s => condV s (sl0 (V.s 0 0) b fun t => d X.r t i) (d X.n b i)
def F330_1 : M := fun a b c => resv 0 b fun d g => nilckV a.c0.c1 fun i => fadV 0 i fun j => ld1 j g fun m => nilckV a.c0.c1 fun n => fadV 1 n fun o => ld1 o g fun p => iadV 2 m p fun q => fadV 0 q fun r => ld1 r g fun s => sl0 s a fun t => c X.r t g
def F330_2 (a : V) : M := fun b c d => sl0 (V.s 0 0) b fun g => seqM (F330_0 a) (F330_1) g c d
def T330 (cf : CallF) (lf : Nat) : V → H → KV → Bool := fun l h k => onCons l fun a b => onNil b ((F330_2 a) (⟨⟨V.u, a, V.u, V.u, V.u, V.u, V.u, V.u⟩, n8 V.u, n8 V.u, n8 V.u, n8 V.u, n8 V.u, n8 V.u, n8 V.u⟩ : L8) h fun x e h => finK (fun e h k => k e.c0.c0) k x e h)
theorem e330 : FnEq Tryz.prog G LF OF 330 T330 := fun cf lf => by kernel_rfl
theorem c330 : chkF Tryz.prog LF OF 330 = true := by kernel_rfl
def F331_0 (a b : V) : M := fun c d g => cf 360 (vc a (vc (V.s 5 521610294641) V.nil)) d fun i j => notV i fun m => guardT m j (fun n => n a j) fun o p => guardT m p (fun q => cf 360 (vc o (vc (V.s 8 7957695015159100781) V.nil)) p fun r s => q r s) fun t u => pickV m t (V.t false) fun v => condV v (fadV 3 b fun w => st true 1 w (wI 1) u fun y a0 => g X.n c a0) (g X.n c u)
def F331_1 : M := fun a b c => cf 330 (vc a.c0.c2 V.nil) b fun d g => cf 138 (vc d V.nil) g fun i j => condV i (cf 361 (vc a.c0.c2 V.nil) j fun m n => ext 0 m fun o => ext 1 m fun p => fadV 1 a.c0.c3 fun q => st true 1 q o n fun r s => c X.n a s) (c X.n a j)
def F331_2 (a : L8) (b : H) (c : KX) := cf 362 (vc a.c0.c2 (vc (V.s 1 41) (vc (V.x (.func 363) (vc a.c0.c2 V.nil) V.nil) V.nil))) b fun d g => ext 0 d fun i => ext 1 d fun j => fadV 4 a.c0.c3 fun m => st true 1 m i g fun n o => eqN nilI nots j (V.x .inil V.nil V.nil) fun p => condV p (cf 297 (vc (V.s 9 2128683892942434361718) (vc j V.nil)) o fun q r => sl0 (wI 0) a fun s => sl1 q s fun t => c X.r t r) (c X.n a o)
def F331_3 : M := fun a b c => cf 360 (vc a.c0.c2 (vc (V.s 1 40) V.nil)) b fun d g => condV d (F331_2 cf a g c) (c X.n a g)
def F331_4 : M := fun a b c => cf 333 (vc a.c0.c2 V.nil) b fun d g => ext 0 d fun i => ext 1 d fun j => fadV 4 a.c0.c3 fun m => ld1 m g fun n => app 1 3 n i g fun o p => fadV 4 a.c0.c3 fun q => st true 1 q o p fun r s => lda 5 a.c0.c3 s fun t => cf 298 (vc a.c0.c2 (vc t (vc j V.nil))) s fun u v => ext 0 u fun w => ext 1 u fun y => sl0 w a fun a0 => sl1 y a0 fun b0 => c X.r b0 v
def F331_5 (a : H) (b : L8) (c : V) (d : KX) := part 0 true 1 (wI 2) (vc (wI 0) (vc (V.s 0 0) (vc (V.s 0 0) (vc (wI 0) (vc vN V.nil))))) fun g => resv 1 a fun i j => newA i false 5 107 (V.x .agg (vc (wI 0) (vc (V.s 0 0) (vc (V.s 0 0) (vc (wI 0) (vc vN V.nil))))) V.nil) j fun m n => sl3 m b fun o => st false 5 m (V.x .agg g V.nil) n fun p q => seqM (F331_0 cf c m) (seqM (F331_1 cf) (seqM (F331_3 cf) (F331_4 cf))) o q d
def F331_6 (a : V) : M := fun b c d => sl0 (wI 0) b fun g => sl1 (V.x .inil V.nil V.nil) g fun i => F331_5 cf c i a d
def T331 (cf : CallF) (lf : Nat) : V → H → KV → Bool := fun l h k => onCons l fun a b => onNil b ((F331_6 cf a) (⟨⟨V.u, V.u, a, V.u, V.u, V.u, V.u, V.u⟩, n8 V.u, n8 V.u, n8 V.u, n8 V.u, n8 V.u, n8 V.u, n8 V.u⟩ : L8) h fun x e h => finK (fun e h k => k (V.x .tup (vc e.c0.c0 (vc e.c0.c1 V.nil)) V.nil)) k x e h)
theorem e331 : FnEq Tryz.prog G LF OF 331 T331 := fun cf lf => by kernel_rfl
theorem c331 : chkF Tryz.prog LF OF 331 = true := by kernel_rfl
def F332_0 (a : V) : M := fun b c d => cf 330 (vc a V.nil) c fun g i => eqlS g (V.s 2 28271) fun j => condV j (cf 364 (vc a V.nil) i fun m n => sl0 (wI 0) b fun o => sl1 m o fun p => d X.r p n) (d X.n b i)
def F332_1 (a b : V) : M := fun c d g => eqN nilI idB a (V.x .inil V.nil V.nil) fun i => condV i (fadV 1 c.c0.c3 fun j => st true 1 j b d fun m n => cf 365 (vc c.c0.c2 (vc (V.s 2 28271) V.nil)) n fun o p => sl4 o c fun q => g X.n q p) (g X.n c d)
def F332_2 : M := fun a b c => eqN nilI idB a.c0.c4 (V.x .inil V.nil V.nil) fun d => condV d (cf 361 (vc a.c0.c2 V.nil) b fun g i => ext 0 g fun j => ext 1 g fun m => fadV 2 a.c0.c3 fun n => st true 1 n j i fun o p => sl4 m a fun q => c X.n q p) (c X.n a b)
def F332_3 : M := fun a b c => eqN nilI idB a.c0.c4 (V.x .inil V.nil V.nil) fun d => condV d (cf 333 (vc a.c0.c2 V.nil) b fun g i => ext 0 g fun j => ext 1 g fun m => fadV 4 a.c0.c3 fun n => st true 1 n j i fun o p => sl4 m a fun q => c X.n q p) (c X.n a b)
def F332_4 : M := fun a b c => lda 5 a.c0.c3 b fun d => cf 298 (vc a.c0.c2 (vc d (vc a.c0.c4 V.nil))) b fun g i => ext 0 g fun j => ext 1 g fun m => sl0 j a fun n => sl1 m n fun o => c X.r o i
def F332_5 : M := fun a b c => cf 361 (vc a.c0.c2 V.nil) b fun d g => ext 0 d fun i => ext 1 d fun j => sl4 j a fun m => seqM (F332_1 cf j i) (seqM (F332_2 cf) (seqM (F332_3 cf) (F332_4 cf))) m g c
def F332_6 (a : H) (b : L8) (c : V) (d : KX) := part 0 true 1 (wI 9) (vc (wI 0) (vc (V.s 0 0) (vc (V.s 0 0) (vc (wI 0) (vc vN V.nil))))) fun g => resv 1 a fun i j => newA i false 5 107 (V.x .agg (vc (wI 0) (vc (V.s 0 0) (vc (V.s 0 0) (vc (wI 0) (vc vN V.nil))))) V.nil) j fun m n => sl3 m b fun o => st false 5 m (V.x .agg g V.nil) n fun p q => seqM (F332_0 cf c) (F332_5 cf) o q d
def F332_7 (a : V) : M := fun b c d => sl0 (wI 0) b fun g => sl1 (V.x .inil V.nil V.nil) g fun i => nilckV a fun j => fadV 1 j fun m => ld1 m c fun n => addW n (wI 1) fun o => nilckV a fun p => fadV 1 p fun q => st true 1 q o c fun r s => F332_6 cf s i a d
def T332 (cf : CallF) (lf : Nat) : V → H → KV → Bool := fun l h k => onCons l fun a b => onNil b ((F332_7 cf a) (⟨⟨V.u, V.u, a, V.u, V.u, V.u, V.u, V.u⟩, n8 V.u, n8 V.u, n8 V.u, n8 V.u, n8 V.u, n8 V.u, n8 V.u⟩ : L8) h fun x e h => finK (fun e h k => k (V.x .tup (vc e.c0.c0 (vc e.c0.c1 V.nil)) V.nil)) k x e h)
theorem e332 : FnEq Tryz.prog G LF OF 332 T332 := fun cf lf => by kernel_rfl
theorem c332 : chkF Tryz.prog LF OF 332 = true := by kernel_rfl
def F333_0 (a : V) : M := fun b c d => cf 330 (vc a V.nil) c fun g i => eqlS g (V.s 1 123) fun j => guardT j i (fun m => m a i) fun n o => guardT j o (fun p => nilckV n fun q => p q o) fun r s => guardT j s (fun t => fadV 4 r fun u => t u s) fun v w => guardT j w (fun y => ld1 v w fun a0 => y a0 w) fun b0 c0 => guardT j c0 (fun d0 => geqV b0 (wI 8) fun g0 => d0 g0 c0) fun i0 j0 => pickV j i0 (V.t false) fun m0 => condV m0 (cf 366 (vc a V.nil) j0 fun n0 o0 => part 0 true 1 (wI 2) (vc (wI 0) (vc (wI 0) V.nil)) fun p0 => part 1 true 1 n0 p0 fun q0 => resv 1 o0 fun r0 s0 => newA r0 false 2 330 (V.x .agg q0 V.nil) s0 fun t0 u0 => sl0 vN b fun v0 => sl1 (V.x (.iface 325) t0 V.nil) v0 fun w0 => d X.r w0 u0) (d X.n b j0)
def F333_1 : M := fun a b c => cf 365 (vc a.c0.c2 (vc (V.s 1 123) V.nil)) b fun d g => eqN nilI nots d (V.x .inil V.nil V.nil) fun i => condV i (sl0 vN a fun j => sl1 d j fun m => c X.r m g) (c X.n a g)
def F333_2 (a : L8) (b : H) (c : KX) := cf 362 (vc a.c0.c2 (vc (V.s 1 125) (vc (V.x (.func 367) (vc a.c0.c2 V.nil) V.nil) V.nil))) b fun d g => ext 0 d fun i => ext 1 d fun j => nilckV a.c0.c2 fun m => fadV 4 m fun n => ld1 n g fun o => subW o (wI 1) fun p => nilckV a.c0.c2 fun q => fadV 4 q fun r => st true 1 r p g fun s t => cf 297 (vc (V.s 10 545109315453898267059571) (vc j V.nil)) t fun u v => sl0 i a fun w => sl1 u w fun y => c X.r y v
def F333_3 : M := fun a b c => nilckV a.c0.c2 fun d => fadV 4 d fun g => ld1 g b fun i => addW i (wI 1) fun j => nilckV a.c0.c2 fun m => fadV 4 m fun n => st true 1 n j b fun o p => F333_2 cf a p c
def F333_4 (a : V) : M := fun b c d => sl0 vN b fun g => sl1 (V.x .inil V.nil V.nil) g fun i => seqM (F333_0 cf a) (seqM (F333_1 cf) (F333_3 cf)) i c d
def T333 (cf : CallF) (lf : Nat) : V → H → KV → Bool := fun l h k => onCons l fun a b => onNil b ((F333_4 cf a) (⟨⟨V.u, V.u, a, V.u, V.u, V.u, V.u, V.u⟩, n8 V.u, n8 V.u, n8 V.u, n8 V.u, n8 V.u, n8 V.u, n8 V.u⟩ : L8) h fun x e h => finK (fun e h k => k (V.x .tup (vc e.c0.c0 (vc e.c0.c1 V.nil)) V.nil)) k x e h)
theorem e333 : FnEq Tryz.prog G LF OF 333 T333 := fun cf lf => by kernel_rfl
theorem c333 : chkF Tryz.prog LF OF 333 = true := by kernel_rfl
def F334_0 (a : V) : M := fun b c d => sl0 (V.t false) b fun g => geqY a (V.y 48) fun i => guardT i c (fun j => j a c) fun m n => guardT i n (fun o => leqY m (V.y 57) fun p => o p n) fun q r => pickV i q (V.t false) fun s => sl0 s g fun t => d X.r t r
def T334 (cf : CallF) (lf : Nat) : V → H → KV → Bool := fun l h k => onCons l fun a b => onNil b ((F334_0 a) (⟨n8 V.u, n8 V.u, n8 V.u, n8 V.u, n8 V.u, n8 V.u, n8 V.u, n8 V.u⟩ : L8) h fun x e h => finK (fun e h k => k e.c0.c0) k x e h)
theorem e334 : FnEq Tryz.prog G LF OF 334 T334 := fun cf lf => by kernel_rfl
theorem c334 : chkF Tryz.prog LF OF 334 = true := by kernel_rfl
def F335_0 (a b : V) : M := fun c d g => sl0 (V.x .inil V.nil V.nil) c fun i => cf 289 (vc a V.nil) d fun j m => nilckV a fun n => fadV 1 n fun o => ld1 o m fun p => resv 1 m fun q r => part 0 true 1 b (vc (V.y 0) V.nil) fun s => bslA q 1 1 5 s r fun t u => app 1 5 p t u fun v w => nilckV a fun y => fadV 1 y fun a0 => st true 1 a0 v w fun b0 c0 => sl0 (V.x .inil V.nil V.nil) i fun d0 => g X.r d0 c0
def T335 (cf : CallF) (lf : Nat) : V → H → KV → Bool := fun l h k => onCons l fun a b => onCons b fun c d => onNil d ((F335_0 cf a c) (⟨n8 V.u, n8 V.u, n8 V.u, n8 V.u, n8 V.u, n8 V.u, n8 V.u, n8 V.u⟩ : L8) h fun x e h => finK (fun e h k => k e.c0.c0) k x e h)
theorem e335 : FnEq Tryz.prog G LF OF 335 T335 := fun cf lf => by kernel_rfl
theorem c335 : chkF Tryz.prog LF OF 335 = true := by kernel_rfl
def F336_0 (a b : V) (c : H) (d : L8) (g : KX) := lenS a fun i => lenS b fun j => geqV i j fun m => guardT m c (fun n => n a c) fun o p => guardT m p (fun q => q b p) fun r s => guardT m s (fun t => lenS r fun u => t u s) fun v w => guardT m w (fun y => sstr none (some v) o fun a0 => y a0 w) fun b0 c0 => guardT m c0 (fun d0 => d0 b c0) fun g0 i0 => guardT m i0 (fun j0 => eqlS b0 g0 fun m0 => j0 m0 i0) fun n0 o0 => pickV m n0 (V.t false) fun p0 => sl0 p0 d fun q0 => g X.r q0 o0
def F336_1 (a b : V) : M := fun c d g => sl0 (V.t false) c fun i => F336_0 a b d i g
def T336 (cf : CallF) (lf : Nat) : V → H → KV → Bool := fun l h k => onCons l fun a b => onCons b fun c d => onNil d ((F336_1 a c) (⟨n8 V.u, n8 V.u, n8 V.u, n8 V.u, n8 V.u, n8 V.u, n8 V.u, n8 V.u⟩ : L8) h fun x e h => finK (fun e h k => k e.c0.c0) k x e h)
theorem e336 : FnEq Tryz.prog G LF OF 336 T336 := fun cf lf => by kernel_rfl
theorem c336 : chkF Tryz.prog LF OF 336 = true := by kernel_rfl
def F337_0 (a b : V) : M := fun c d g => sl0 (wI 0) c fun i => cf 368 (vc a (vc b V.nil)) d fun j m => sl0 j i fun n => g X.r n m
def T337 (cf : CallF) (lf : Nat) : V → H → KV → Bool := fun l h k => onCons l fun a b => onCons b fun c d => onNil d ((F337_0 cf a c) (⟨n8 V.u, n8 V.u, n8 V.u, n8 V.u, n8 V.u, n8 V.u, n8 V.u, n8 V.u⟩ : L8) h fun x e h => finK (fun e h k => k e.c0.c0) k x e h)
theorem e337 : FnEq Tryz.prog G LF OF 337 T337 := fun cf lf => by kernel_rfl
theorem c337 : chkF Tryz.prog LF OF 337 = true := by kernel_rfl
def F340_0 (a : H) (b : L8) (c : KX) := resv 1 a fun d g => mapA d g fun i j => part 0 true 1 (V.s 2 25705) (vc (V.s 0 0) (vc (V.s 0 0) V.nil)) fun m => part 1 true 1 (V.s 3 7630409) m fun n => resv 1 j fun o p => part 0 false 2 (V.x .agg n V.nil) (vc (V.s 0 0) (vc (V.s 0 0) V.nil)) fun q => bslA o 1 2 413 q p fun r s => part 0 true 1 (V.s 4 1634165075) (vc (V.s 0 0) (vc vN V.nil)) fun t => part 1 true 1 r t fun u => mpI i (V.s 4 1634165107) (V.x .agg u V.nil) s fun v w => part 0 true 1 (V.s 5 495555404115) (vc (V.s 0 0) (vc vN V.nil)) fun y => part 1 true 1 vN y fun a0 => mpI i (V.s 5 495555404147) (V.x .agg a0 V.nil) w fun b0 c0 => part 0 true 1 (V.s 7 28538277257700723) (vc (V.s 0 0) (vc (V.s 0 0) V.nil)) fun d0 => part 1 true 1 (V.s 6 113723913172051) d0 fun g0 => resv 1 c0 fun i0 j0 => part 0 false 2 (V.x .agg g0 V.nil) (vc (V.s 0 0) (vc (V.s 0 0) V.nil)) fun m0 => bslA i0 1 2 413 m0 j0 fun n0 o0 => part 0 true 1 (V.s 7 32481125887929925) (vc (V.s 0 0) (vc vN V.nil)) fun p0 => part 1 true 1 n0 p0 fun q0 => mpI i (V.s 6 125779851896172) (V.x .agg q0 V.nil) o0 fun r0 s0 => part 0 true 1 (V.s 3 7630409) (vc (V.s 0 0) (vc vN V.nil)) fun t0 => part 1 true 1 vN t0 fun u0 => mpI i (V.s 4 1701669236) (V.x .agg u0 V.nil) s0 fun v0 w0 => sl0 i b fun y0 => c X.r y0 w0
def F340_1 (a : H) (b : L8) (c : KX) := resv 1 a fun d g => mapA d g fun i j => part 0 true 1 (V.s 3 7630409) (vc (V.s 0 0) (vc vN V.nil)) fun m => part 1 true 1 vN m fun n => mpI i (V.s 2 25705) (V.x .agg n V.nil) j fun o p => part 0 true 1 (V.s 6 113723913172051) (vc (V.s 0 0) (vc vN V.nil)) fun q => part 1 true 1 vN q fun r => mpI i (V.s 6 126948300911731) (V.x .agg r V.nil) p fun s t => part 0 true 1 (V.s 3 7630409) (vc (V.s 0 0) (vc vN V.nil)) fun u => part 1 true 1 vN u fun v => mpI i (V.s 4 1885697139) (V.x .agg v V.nil) t fun w y => part 0 true 1 (V.s 3 7630409) (vc (V.s 0 0) (vc vN V.nil)) fun a0 => part 1 true 1 vN a0 fun b0 => mpI i (V.s 5 495806936179) (V.x .agg b0 V.nil) y fun c0 d0 => sl0 i b fun g0 => c X.r g0 d0
def F340_2 (a : H) (b : L8) (c : KX) := resv 1 a fun d g => mapA d g fun i j => part 0 true 1 (V.s 3 7630409) (vc (V.s 0 0) (vc vN V.nil)) fun m => part 1 true 1 vN m fun n => mpI i (V.s 3 7955819) (V.x .agg n V.nil) j fun o p => part 0 true 1 (V.s 7 31069335677005634) (vc (V.s 0 0) (vc vN V.nil)) fun q => part 1 true 1 vN q fun r => mpI i (V.s 4 1801675106) (V.x .agg r V.nil) p fun s t => part 0 true 1 (V.s 6 113723913172051) (vc (V.s 0 0) (vc vN V.nil)) fun u => part 1 true 1 vN u fun v => mpI i (V.s 2 28783) (V.x .agg v V.nil) t fun w y => part 0 true 1 (V.s 6 113723913172051) (vc (V.s 0 0) (vc vN V.nil)) fun a0 => part 1 true 1 vN a0 fun b0 => mpI i (V.s 3 7301239) (V.x .agg b0 V.nil) y fun c0 d0 => part 0 true 1 (V.s 3 7630409) (vc (V.s 0 0) (vc vN V.nil)) fun g0 => part 1 true 1 vN g0 fun i0 => mpI i (V.s 1 110) (V.x .agg i0 V.nil) d0 fun j0 m0 => sl0 i b fun n0 => c X.r n0 m0
def F340_3 (a : H) (b : L8) (c : KX) := resv 1 a fun d g => mapA d g fun i j => part 0 true 1 (V.s 6 113723913172051) (vc (V.s 0 0) (vc vN V.nil)) fun m => part 1 true 1 vN m fun n => mpI i (V.s 6 126948300911731) (V.x .agg n V.nil) j fun o p => part 0 true 1 (V.s 6 113723913172051) (vc (V.s 0 0) (vc vN V.nil)) fun q => part 1 true 1 vN q fun r => mpI i (V.s 7 28538277257700723) (V.x .agg r V.nil) p fun s t => sl0 i b fun u => c X.r u t
def F340_4 (a : V) : M := fun b c d => eqlS a (V.s 5 521610294609) fun g => condV g (F340_0 c b d) (eqlS a (V.s 4 1634165075) fun i => condV i (F340_1 c b d) (eqlS a (V.s 5 521611275845) fun j => condV j (F340_2 c b d) (eqlS a (V.s 4 1885697107) fun m => condV m (F340_3 c b d) (d X.n b c))))
def F340_5 (a : V) : M := fun b c d => blockM 0 (F340_4 a) b c d
def F340_6 : M := fun a b c => sl0 (V.x .mnil V.nil V.nil) a fun d => c X.r d b
def F340_7 (a : V) : M := fun b c d => sl0 (V.x .mnil V.nil V.nil) b fun g => seqM (F340_5 a) (F340_6) g c d
def T340 (cf : CallF) (lf : Nat) : V → H → KV → Bool := fun l h k => onCons l fun a b => onNil b ((F340_7 a) (⟨n8 V.u, n8 V.u, n8 V.u, n8 V.u, n8 V.u, n8 V.u, n8 V.u, n8 V.u⟩ : L8) h fun x e h => finK (fun e h k => k e.c0.c0) k x e h)
theorem e340 : FnEq Tryz.prog G LF OF 340 T340 := fun cf lf => by kernel_rfl
theorem c340 : chkF Tryz.prog LF OF 340 = true := by kernel_rfl
def F341_0 (a b : V) : M := fun c d g => sl0 (V.t false) c fun i => cf 344 (vc a (vc b V.nil)) d fun j m => geqV j (wI 0) fun n => sl0 n i fun o => g X.r o m
def T341 (cf : CallF) (lf : Nat) : V → H → KV → Bool := fun l h k => onCons l fun a b => onCons b fun c d => onNil d ((F341_0 cf a c) (⟨n8 V.u, n8 V.u, n8 V.u, n8 V.u, n8 V.u, n8 V.u, n8 V.u, n8 V.u⟩ : L8) h fun x e h => finK (fun e h k => k e.c0.c0) k x e h)
theorem e341 : FnEq Tryz.prog G LF OF 341 T341 := fun cf lf => by kernel_rfl
theorem c341 : chkF Tryz.prog LF OF 341 = true := by kernel_rfl
def F342_0 (a b : V) : M := fun c d g => resv 1 d fun i j => newA i false 2 413 a j fun m n => sl0 (V.t false) c fun o => fadV 0 m fun p => ld1 p n fun q => fadV 1 b fun r => ld1 r n fun s => eqlS q s fun t => sl0 t o fun u => g X.r u n
def T342 (cf : CallF) (lf : Nat) : V → H → KV → Bool := fun l h k => onCons l fun a b => onCons b fun c d => onNil d ((F342_0 a c) (⟨n8 V.u, n8 V.u, n8 V.u, n8 V.u, n8 V.u, n8 V.u, n8 V.u, n8 V.u⟩ : L8) h fun x e h => finK (fun e h k => k e.c0.c0) k x e h)
theorem e342 : FnEq Tryz.prog G LF OF 342 T342 := fun cf lf => by kernel_rfl
theorem c342 : chkF Tryz.prog LF OF 342 = true := by kernel_rfl
def F343_0 (a b : V) : M := fun c d g => resv 1 d fun i j => newA i false 5 107 a j fun m n => sl0 (V.t false) c fun o => fadV 1 m fun p => ld1 p n fun q => fadV 1 b fun r => ld1 r n fun s => eqlS q s fun t => sl0 t o fun u => g X.r u n
def T343 (cf : CallF) (lf : Nat) : V → H → KV → Bool := fun l h k => onCons l fun a b => onCons b fun c d => onNil d ((F343_0 a c) (⟨n8 V.u, n8 V.u, n8 V.u, n8 V.u, n8 V.u, n8 V.u, n8 V.u, n8 V.u⟩ : L8) h fun x e h => finK (fun e h k => k e.c0.c0) k x e h)
theorem e343 : FnEq Tryz.prog G LF OF 343 T343 := fun cf lf => by kernel_rfl
theorem c343 : chkF Tryz.prog LF OF 343 = true := by kernel_rfl
def F344_0 (a : V) : M := fun b c d => condV a (d X.n b c) (d (X.x 0) b c)
def F344_1 : M := fun a b c => iadV 2 a.c0.c4 a.c0.c1 fun d => lda 2 d b fun g => callV cf a.c0.c3 (vc g V.nil) b fun i j => condV i (sl0 a.c0.c1 a fun m => c X.r m j) (c X.n a j)
def F344_2 : M := fun a b c => addW a.c0.c1 (wI 1) fun d => sl1 d a fun g => c X.n g b
def F344_3 : M := fun a b c => lssW a.c0.c1 a.c0.c2 fun d => seqM (F344_0 d) (seqM (blockM 1 (F344_1 cf)) (F344_2)) a b c
def F344_4 (a : V) : M := fun b c d => lenL a fun g => sl2 g b fun i => sl1 (wI 0) i fun j => blockM 0 (loopM lf (F344_3 cf)) j c d
def F344_5 : M := fun a b c => sl0 (V.w 9223372036854775807) a fun d => c X.r d b
def F344_6 (a : V) : M := fun b c d => sl0 (wI 0) b fun g => seqM (F344_4 cf lf a) (F344_5) g c d
def T344 (cf : CallF) (lf : Nat) : V → H → KV → Bool := fun l h k => onCons l fun a b => onCons b fun c d => onNil d ((F344_6 cf lf a) (⟨⟨V.u, V.u, V.u, c, a, V.u, V.u, V.u⟩, n8 V.u, n8 V.u, n8 V.u, n8 V.u, n8 V.u, n8 V.u, n8 V.u⟩ : L8) h fun x e h => finK (fun e h k => k e.c0.c0) k x e h)
theorem e344 : FnEq Tryz.prog G LF OF 344 T344 := fun cf lf => by kernel_rfl
theorem c344 : chkF Tryz.prog LF OF 344 = true := by kernel_rfl
def F345_0 (a b : V) : M := fun c d g => resv 1 d fun i j => newA i false 2 413 a j fun m n => sl0 (V.t false) c fun o => fadV 0 m fun p => ld1 p n fun q => fadV 1 b fun r => ld1 r n fun s => eqlS q s fun t => sl0 t o fun u => g X.r u n
def T345 (cf : CallF) (lf : Nat) : V → H → KV → Bool := fun l h k => onCons l fun a b => onCons b fun c d => onNil d ((F345_0 a c) (⟨n8 V.u, n8 V.u, n8 V.u, n8 V.u, n8 V.u, n8 V.u, n8 V.u, n8 V.u⟩ : L8) h fun x e h => finK (fun e h k => k e.c0.c0) k x e h)
theorem e345 : FnEq Tryz.prog G LF OF 345 T345 := fun cf lf => by kernel_rfl
theorem c345 : chkF Tryz.prog LF OF 345 = true := by kernel_rfl
def F347_0 : M := fun a b c => lssW a.c0.c0 a.c0.c1 fun d => condV d (c X.n a b) (c (X.x 0) a b)
def F347_1 (a : V) (b : H) (c d : V) (g : L8) (i : V) (j : KX) := guardT a b (fun m => subW c (wI 1) fun n => m n b) fun o p => guardT a p (fun q => iadV 4 d o fun r => q r p) fun s t => guardT a t (fun u => lda 4 s t fun v => u v t) fun w y => guardT a y (fun a0 => a0 g.c0.c4 y) fun b0 c0 => guardT a c0 (fun d0 => callV cf b0 (vc i (vc w V.nil)) c0 fun g0 i0 => d0 g0 i0) fun j0 m0 => guardT a m0 (fun n0 => lssW j0 (wI 0) fun o0 => n0 o0 m0) fun p0 q0 => pickV a p0 (V.t false) fun r0 => condV r0 (j X.n g q0) (j (X.x 2) g q0)
def F347_2 : M := fun a b c => resv 0 b fun d g => gtrW a.c0.c2 a.c0.c3 fun i => guardT i g (fun j => j a.c0.c5 g) fun m n => guardT i n (fun o => o a.c0.c2 n) fun p q => guardT i q (fun r => iadV 4 m p fun s => r s q) fun t u => guardT i u (fun v => lda 4 t u fun w => v w u) fun y a0 => guardT i a0 (fun b0 => b0 a.c0.c5 a0) fun c0 d0 => guardT i d0 (fun g0 => g0 a.c0.c2 d0) fun i0 j0 => F347_1 cf i j0 i0 c0 a y c
def F347_3 : M := fun a b c => resv 0 b fun d g => subW a.c0.c2 (wI 1) fun i => iadV 4 a.c0.c5 i fun j => lda 4 j g fun m => iadV 4 a.c0.c5 a.c0.c2 fun n => lda 4 n g fun o => subW a.c0.c2 (wI 1) fun p => iadV 4 a.c0.c5 a.c0.c2 fun q => st false 4 q m g fun r s => iadV 4 a.c0.c5 p fun t => st false 4 t o s fun u v => c X.n a v
def F347_4 : M := fun a b c => subW a.c0.c2 (wI 1) fun d => sl2 d a fun g => c X.n g b
def F347_5 : M := fun a b c => sl2 a.c0.c0 a fun d => blockM 2 (loopM lf (seqM (F347_2 cf) (seqM (blockM 3 (F347_3)) (F347_4)))) d b c
def F347_6 : M := fun a b c => addW a.c0.c0 (wI 1) fun d => sl0 d a fun g => c X.n g b
def F347_7 (a : V) : M := fun b c d => addW a (wI 1) fun g => sl0 g b fun i => blockM 0 (loopM lf (seqM (F347_0) (seqM (blockM 1 (F347_5 cf lf)) (F347_6)))) i c d
def T347 (cf : CallF) (lf : Nat) : V → H → KV → Bool := fun l h k => onCons l fun a b => onCons b fun c d => onCons d fun g i => onCons i fun j m => onNil m ((F347_7 cf lf c) (⟨⟨V.u, g, V.u, c, j, a, V.u, V.u⟩, n8 V.u, n8 V.u, n8 V.u, n8 V.u, n8 V.u, n8 V.u, n8 V.u⟩ : L8) h fun x e h => finK (fun e h k => k (V.x .tup V.nil V.nil)) k x e h)
theorem e347 : FnEq Tryz.prog G LF OF 347 T347 := fun cf lf => by kernel_rfl
theorem c347 : chkF Tryz.prog LF OF 347 = true := by kernel_rfl
def F356_0 (a : V) : M := fun b c d => geqV a (mkI .u64 4294967296) fun g => condV g (shrV a (mkI .u64 32) fun i => sl1 i b fun j => sl0 (wI 32) j fun m => d X.n m c) (d X.n b c)
def F356_1 : M := fun a b c => geqV a.c0.c1 (mkI .u64 65536) fun d => condV d (shrV a.c0.c1 (mkI .u64 16) fun g => sl1 g a fun i => addW i.c0.c0 (wI 16) fun j => sl0 j i fun m => c X.n m b) (c X.n a b)
def F356_2 : M := fun a b c => geqV a.c0.c1 (mkI .u64 256) fun d => condV d (shrV a.c0.c1 (mkI .u64 8) fun g => sl1 g a fun i => addW i.c0.c0 (wI 8) fun j => sl0 j i fun m => c X.n m b) (c X.n a b)
def F356_3 : M := fun a b c => toY a.c0.c1 fun d => sidxV (V.s 256 1013866857139168856493015739252390649739422828853819106890363778118420553376247557433637691341895324351018602695588957474325319502760499485336098898398377509666851054660423406800006203933793007272033180812049178612605246075062580585469430410618860250057463399279570354286669047577758927328864388992123306212451509403152394148136105363817402562688186708175358218852349079190158732807302672745370040257219644697201681238697346923541678507645485296520536209706771857694240900605172937619415410180424934769249448772944216470541052485265558808433676546390051204254346932932316488017972311616136051587427851453983453479168) d fun g => toW g fun i => addW a.c0.c0 i fun j => sl0 j a fun m => c X.r m b
def F356_4 (a : V) : M := fun b c d => sl0 (wI 0) b fun g => seqM (F356_0 a) (seqM (F356_1) (seqM (F356_2) (F356_3))) g c d
def T356 (cf : CallF) (lf : Nat) : V → H → KV → Bool := fun l h k => onCons l fun a b => onNil b ((F356_4 a) (⟨⟨V.u, a, V.u, V.u, V.u, V.u, V.u, V.u⟩, n8 V.u, n8 V.u, n8 V.u, n8 V.u, n8 V.u, n8 V.u, n8 V.u⟩ : L8) h fun x e h => finK (fun e h k => k e.c0.c0) k x e h)
theorem e356 : FnEq Tryz.prog G LF OF 356 T356 := fun cf lf => by kernel_rfl
theorem c356 : chkF Tryz.prog LF OF 356 = true := by kernel_rfl
def F357_0 (a : V) : M := fun b c d => condV a (d X.n b c) (d (X.x 0) b c)
def F357_1 : M := fun a b c => ext 1 a.c0.c2 fun d => ext 2 a.c0.c2 fun g => callV cf a.c0.c3 (vc g V.nil) b fun i j => eqT idB i a.c0.c4 fun m => condV m (sl0 d a fun n => c X.r n j) (c X.n a j)
def F357_2 : M := fun a b c => itN a.c0.c1 b fun d g => sl2 d a fun i => ext 0 d fun j => seqM (F357_0 j) (blockM 1 (F357_1 cf)) i g c
def F357_3 (a : V) : M := fun b c d => resv 1 c fun g i => itA g a i fun j m => sl1 j b fun n => blockM 0 (loopM lf (F357_2 cf)) n m d
def F357_4 : M := fun a b c => sl0 (V.w 9223372036854775807) a fun d => c X.r d b
def F357_5 (a : V) : M := fun b c d => sl0 (wI 0) b fun g => seqM (F357_3 cf lf a) (F357_4) g c d
def T357 (cf : CallF) (lf : Nat) : V → H → KV → Bool := fun l h k => onCons l fun a b => onCons b fun c d => onCons d fun g i => onNil i ((F357_5 cf lf a) (⟨⟨V.u, V.u, V.u, c, g, V.u, V.u, V.u⟩, n8 V.u, n8 V.u, n8 V.u, n8 V.u, n8 V.u, n8 V.u, n8 V.u⟩ : L8) h fun x e h => finK (fun e h k => k e.c0.c0) k x e h)
theorem e357 : FnEq Tryz.prog G LF OF 357 T357 := fun cf lf => by kernel_rfl
theorem c357 : chkF Tryz.prog LF OF 357 = true := by kernel_rfl
def F358_0 (a : V) : M := fun b c d => leqW (wI 0) a fun g => guardT g c (fun i => i a c) fun j m => guardT g m (fun n => lssW j (wI 100) fun o => n o m) fun p q => pickV g p (V.t false) fun r => condV r (cf 376 (vc a V.nil) q fun s t => sl0 s b fun u => d X.r u t) (d X.n b q)
def F358_1 (a : V) : M := fun b c d => lssW b.c0.c1 (wI 0) fun g => condV g (negV a fun i => sl2 i b fun j => d X.n j c) (d X.n b c)
def F358_2 (a : V) : M := fun b c d => lssW b.c0.c1 (wI 0) fun g => condV g (iaaV 1 24 b.c0.c3 (wI 0) fun i => st true 1 i (V.y 45) c fun j m => addW (wI 1) a fun n => sarr 1 24 none (some n) b.c0.c3 fun o => b2s o m fun p => sl0 p b fun q => d X.r q m) (d X.n b c)
def F358_3 : M := fun a b c => addW (wI 1) a.c0.c4 fun d => sarr 1 24 (some (wI 1)) (some d) a.c0.c3 fun g => b2s g b fun i => sl0 i a fun j => c X.r j b
def F358_4 : M := fun a b c => cf 377 (vc a.c0.c2 V.nil) b fun d g => sl4 d a fun i => addW (wI 1) d fun j => sarr 1 24 (some (wI 1)) (some j) i.c0.c3 fun m => cf 378 (vc m (vc i.c0.c2 V.nil)) g fun n o => seqM (F358_2 d) (F358_3) i o c
def F358_5 : M := fun a b c => resv 1 b fun d g => newA d false 24 442 (V.x .agg (vc (V.y 0) (vc (V.y 0) (vc (V.y 0) (vc (V.y 0) (vc (V.y 0) (vc (V.y 0) (vc (V.y 0) (vc (V.y 0) (vc (V.y 0) (vc (V.y 0) (vc (V.y 0) (vc (V.y 0) (vc (V.y 0) (vc (V.y 0) (vc (V.y 0) (vc (V.y 0) (vc (V.y 0) (vc (V.y 0) (vc (V.y 0) (vc (V.y 0) (vc (V.y 0) (vc (V.y 0) (vc (V.y 0) (vc (V.y 0) V.nil)))))))))))))))))))))))) V.nil) g fun i j => sl3 i a fun m => toI .u64 m.c0.c1 fun n => sl2 n m fun o => seqM (F358_1 n) (F358_4 cf) o j c
def F358_6 (a b : V) : M := fun c d g => eqlW a (wI 10) fun i => condV i (seqM (F358_0 cf b) (F358_5 cf) c d g) (g X.n c d)
def F358_7 : M := fun a b c => toI .u64 a.c0.c1 fun d => lssW a.c0.c1 (wI 0) fun g => cf 379 (vc vN (vc d (vc a.c0.c5 (vc g (vc (V.t false) V.nil))))) b fun i j => ext 0 i fun m => ext 1 i fun n => sl0 n a fun o => c X.r o j
def F358_8 (a b : V) : M := fun c d g => sl0 (V.s 0 0) c fun i => seqM (F358_6 cf a b) (F358_7 cf) i d g
def T358 (cf : CallF) (lf : Nat) : V → H → KV → Bool := fun l h k => onCons l fun a b => onCons b fun c d => onNil d ((F358_8 cf c a) (⟨⟨V.u, a, V.u, V.u, V.u, c, V.u, V.u⟩, n8 V.u, n8 V.u, n8 V.u, n8 V.u, n8 V.u, n8 V.u, n8 V.u⟩ : L8) h fun x e h => finK (fun e h k => k e.c0.c0) k x e h)
theorem e358 : FnEq Tryz.prog G LF OF 358 T358 := fun cf lf => by kernel_rfl
theorem c358 : chkF Tryz.prog LF OF 358 = true := by kernel_rfl
def F359_0 (a : V) : M := fun b c d => condV a (d X.n b c) (d (X.x 0) b c)
def F359_1 (a : L8) : M := fun b c d => sidxV b.c0.c2 a.c0.c0 fun g => eqlY g (V.y 34) fun i => guardF i c (fun j => j b.c0.c2 c) fun m n => guardF i n (fun o => o a.c0.c0 n) fun p q => guardF i q (fun r => sidxV m p fun s => r s q) fun t u => guardF i u (fun v => eqlY t (V.y 92) fun w => v w u) fun y a0 => pickV i (V.t true) y fun b0 => condV b0 (cf 335 (vc b.c0.c3 (vc (V.y 92) V.nil)) a0 fun c0 d0 => d X.n b d0) (d X.n b a0)
def F359_2 : M := fun a b c => sidxV a.c0.c2 a.c0.c4 fun d => cf 335 (vc a.c0.c3 (vc d V.nil)) b fun g i => c X.n a i
def F359_3 : M := fun a b c => sl4 a.c0.c0 a fun d => seqM (F359_1 cf a) (F359_2 cf) d b c
def F359_4 : M := fun a b c => addW a.c0.c0 (wI 1) fun d => sl0 d a fun g => c X.n g b
def F359_5 : M := fun a b c => lssW a.c0.c0 a.c0.c1 fun d => seqM (F359_0 d) (seqM (blockM 1 (F359_3 cf)) (F359_4)) a b c
def F359_6 (a : V) : M := fun b c d => lenS a fun g => sl1 g b fun i => sl0 (wI 0) i fun j => blockM 0 (loopM lf (F359_5 cf)) j c d
def F359_7 : M := fun a b c => cf 335 (vc a.c0.c3 (vc (V.y 34) V.nil)) b fun d g => c X.n a g
def F359_8 (a b : V) : M := fun c d g => cf 335 (vc a (vc (V.y 34) V.nil)) d fun i j => seqM (F359_6 cf lf b) (F359_7 cf) c j g
def T359 (cf : CallF) (lf : Nat) : V → H → KV → Bool := fun l h k => onCons l fun a b => onCons b fun c d => onNil d ((F359_8 cf lf a c) (⟨⟨V.u, V.u, c, a, V.u, V.u, V.u, V.u⟩, n8 V.u, n8 V.u, n8 V.u, n8 V.u, n8 V.u, n8 V.u, n8 V.u⟩ : L8) h fun x e h => finK (fun e h k => k (V.x .tup V.nil V.nil)) k x e h)
theorem e359 : FnEq Tryz.prog G LF OF 359 T359 := fun cf lf => by kernel_rfl
theorem c359 : chkF Tryz.prog LF OF 359 = true := by kernel_rfl
def F360_0 (a b : V) : M := fun c d g => cf 330 (vc a V.nil) d fun i j => neqS i b fun m => condV m (sl0 (V.t false) c fun n => g X.r n j) (g X.n c j)
def F360_1 : M := fun a b c => nilckV a.c0.c1 fun d => fadV 1 d fun g => ld1 g b fun i => addW i (wI 1) fun j => nilckV a.c0.c1 fun m => fadV 1 m fun n => st true 1 n j b fun o p => sl0 (V.t true) a fun q => c X.r q p
def F360_2 (a b : V) : M := fun c d g => sl0 (V.t false) c fun i => seqM (F360_0 cf a b) (F360_1) i d g
def T360 (cf : CallF) (lf : Nat) : V → H → KV → Bool := fun l h k => onCons l fun a b => onCons b fun c d => onNil d ((F360_2 cf a c) (⟨⟨V.u, a, V.u, V.u, V.u, V.u, V.u, V.u⟩, n8 V.u, n8 V.u, n8 V.u, n8 V.u, n8 V.u, n8 V.u, n8 V.u⟩ : L8) h fun x e h => finK (fun e h k => k e.c0.c0) k x e h)
theorem e360 : FnEq Tryz.prog G LF OF 360 T360 := fun cf lf => by kernel_rfl
theorem c360 : chkF Tryz.prog LF OF 360 = true := by kernel_rfl
def F361_0 (a b : V) : M := fun c d g => cf 138 (vc a V.nil) d fun i j => notV i fun m => condV m (cf 364 (vc b V.nil) j fun n o => sl0 (V.s 0 0) c fun p => sl1 n p fun q => g X.r q o) (g X.n c j)
def F361_1 : M := fun a b c => nilckV a.c0.c2 fun d => fadV 1 d fun g => ld1 g b fun i => addW i (wI 1) fun j => nilckV a.c0.c2 fun m => fadV 1 m fun n => st true 1 n j b fun o p => sl0 a.c0.c3 a fun q => sl1 (V.x .inil V.nil V.nil) q fun r => c X.r r p
def F361_2 (a : V) : M := fun b c d => sl0 (V.s 0 0) b fun g => sl1 (V.x .inil V.nil V.nil) g fun i => cf 330 (vc a V.nil) c fun j m => sl3 j i fun n => seqM (F361_0 cf j a) (F361_1) n m d
def T361 (cf : CallF) (lf : Nat) : V → H → KV → Bool := fun l h k => onCons l fun a b => onNil b ((F361_2 cf a) (⟨⟨V.u, V.u, a, V.u, V.u, V.u, V.u, V.u⟩, n8 V.u, n8 V.u, n8 V.u, n8 V.u, n8 V.u, n8 V.u, n8 V.u⟩ : L8) h fun x e h => finK (fun e h k => k (V.x .tup (vc e.c0.c0 (vc e.c0.c1 V.nil)) V.nil)) k x e h)
theorem e361 : FnEq Tryz.prog G LF OF 361 T361 := fun cf lf => by kernel_rfl
theorem c361 : chkF Tryz.prog LF OF 361 = true := by kernel_rfl
def F362_0 (a : V) : M := fun b c d => eqN nilI nots a (V.x .inil V.nil V.nil) fun g => condV g (sl0 vN b fun i => sl1 a i fun j => d X.r j c) (d X.n b c)
def F362_1 : M := fun a b c => resv 1 b fun d g => part 0 true 1 a.c0.c3 (vc (wI 0) V.nil) fun i => bslA d 1 1 3 i g fun j m => app 1 3 a.c0.c0 j m fun n o => sl0 n a fun p => cf 360 (vc p.c0.c4 (vc p.c0.c5 V.nil)) o fun q r => condV q (sl0 n p fun s => sl1 (V.x .inil V.nil V.nil) s fun t => c X.r t r) (c X.n p r)
def F362_2 : M := fun a b c => callV cf a.c0.c2 V.nil b fun d g => ext 0 d fun i => ext 1 d fun j => sl3 i a fun m => seqM (F362_0 j) (F362_1 cf) m g c
def F362_3 : M := fun a b c => sl0 vN a fun d => sl1 (V.x .inil V.nil V.nil) d fun g => blockM 0 (loopM lf (blockM 1 (F362_2 cf))) g b c
def T362 (cf : CallF) (lf : Nat) : V → H → KV → Bool := fun l h k => onCons l fun a b => onCons b fun c d => onCons d fun g i => onNil i ((F362_3 cf lf) (⟨⟨V.u, V.u, g, V.u, a, c, V.u, V.u⟩, n8 V.u, n8 V.u, n8 V.u, n8 V.u, n8 V.u, n8 V.u, n8 V.u⟩ : L8) h fun x e h => finK (fun e h k => k (V.x .tup (vc e.c0.c0 (vc e.c0.c1 V.nil)) V.nil)) k x e h)
theorem e362 : FnEq Tryz.prog G LF OF 362 T362 := fun cf lf => by kernel_rfl
theorem c362 : chkF Tryz.prog LF OF 362 = true := by kernel_rfl
def F365_0 (a b : V) : M := fun c d g => cf 330 (vc a V.nil) d fun i j => neqS i b fun m => condV m (cf 364 (vc a V.nil) j fun n o => sl0 n c fun p => g X.r p o) (g X.n c j)
def F365_1 : M := fun a b c => nilckV a.c0.c1 fun d => fadV 1 d fun g => ld1 g b fun i => addW i (wI 1) fun j => nilckV a.c0.c1 fun m => fadV 1 m fun n => st true 1 n j b fun o p => sl0 (V.x .inil V.nil V.nil) a fun q => c X.r q p
def F365_2 (a b : V) : M := fun c d g => sl0 (V.x .inil V.nil V.nil) c fun i => seqM (F365_0 cf a b) (F365_1) i d g
def T365 (cf : CallF) (lf : Nat) : V → H → KV → Bool := fun l h k => onCons l fun a b => onCons b fun c d => onNil d ((F365_2 cf a c) (⟨⟨V.u, a, V.u, V.u, V.u, V.u, V.u, V.u⟩, n8 V.u, n8 V.u, n8 V.u, n8 V.u, n8 V.u, n8 V.u, n8 V.u⟩ : L8) h fun x e h => finK (fun e h k => k e.c0.c0) k x e h)
theorem e365 : FnEq Tryz.prog G LF OF 365 T365 := fun cf lf => by kernel_rfl
theorem c365 : chkF Tryz.prog LF OF 365 = true := by kernel_rfl
def F367_0 (a : V) : M := fun b c d => cf 360 (vc a (vc (V.s 3 3026478) V.nil)) c fun g i => notV g fun j => condV j (cf 380 (vc a V.nil) i fun m n => ext 0 m fun o => ext 1 m fun p => sl0 o b fun q => sl1 p q fun r => d X.r r n) (d X.n b i)
def F367_1 (a : L8) (b : H) (c : V) (d : KX) := nilckV a.c0.c2 fun g => fadV 1 g fun i => ld1 i b fun j => addW j (wI 1) fun m => nilckV a.c0.c2 fun n => fadV 1 n fun o => st true 1 o m b fun p q => cf 361 (vc a.c0.c2 V.nil) q fun r s => ext 0 r fun t => ext 1 r fun u => fadV 2 c fun v => st true 1 v t s fun w y => eqN nilI nots u (V.x .inil V.nil V.nil) fun a0 => condV a0 (sl0 (wI 0) a fun b0 => sl1 u b0 fun c0 => d X.r c0 y) (d X.n a y)
def F367_2 (a : V) (b : H) (c : V) (d : L8) (g : KX) := fadV 0 a fun i => st true 1 i (wI 7) b fun j m => fadV 1 a fun n => st true 1 n c m fun o p => cf 381 (vc d.c0.c2 V.nil) p fun q r => ext 0 q fun s => ext 1 q fun t => fadV 4 a fun u => st true 1 u s r fun v w => lda 5 a w fun y => cf 298 (vc d.c0.c2 (vc y (vc t V.nil))) w fun a0 b0 => ext 0 a0 fun c0 => ext 1 a0 fun d0 => sl0 c0 d fun g0 => sl1 d0 g0 fun i0 => g X.r i0 b0
def F367_3 (a b : V) : M := fun c d g => eqlS a (V.s 2 28271) fun i => condV i (F367_1 cf c d b g) (cf 138 (vc a V.nil) d fun j m => condV j (nilckV c.c0.c2 fun n => fadV 1 n fun o => ld1 o m fun p => addW p (wI 1) fun q => nilckV c.c0.c2 fun r => fadV 1 r fun s => st true 1 s q m fun t u => F367_2 cf b u a c g) (g X.n c m))
def F367_4 (a : V) : M := fun b c d => cf 330 (vc b.c0.c2 V.nil) c fun g i => blockM 0 (F367_3 cf g a) b i d
def F367_5 : M := fun a b c => cf 382 (vc a.c0.c2 (vc (V.t true) V.nil)) b fun d g => ext 0 d fun i => ext 1 d fun j => fadV 4 a.c0.c3 fun m => st true 1 m i g fun n o => lda 5 a.c0.c3 o fun p => cf 298 (vc a.c0.c2 (vc p (vc j V.nil))) o fun q r => ext 0 q fun s => ext 1 q fun t => sl0 s a fun u => sl1 t u fun v => c X.r v r
def F367_6 : M := fun a b c => part 0 true 1 (wI 8) (vc (wI 0) (vc (V.s 0 0) (vc (V.s 0 0) (vc (wI 0) (vc vN V.nil))))) fun d => resv 1 b fun g i => newA g false 5 107 (V.x .agg (vc (wI 0) (vc (V.s 0 0) (vc (V.s 0 0) (vc (wI 0) (vc vN V.nil))))) V.nil) i fun j m => sl3 j a fun n => st false 5 j (V.x .agg d V.nil) m fun o p => seqM (F367_4 cf j) (F367_5 cf) n p c
def F367_7 (a : V) : M := fun b c d => sl0 (wI 0) b fun g => sl1 (V.x .inil V.nil V.nil) g fun i => seqM (F367_0 cf a) (F367_6 cf) i c d
def T367 (cf : CallF) (lf : Nat) : V → H → KV → Bool := fun l h k => onCons l fun a b => onNil b ((F367_7 cf a) (⟨⟨V.u, V.u, a, V.u, V.u, V.u, V.u, V.u⟩, n8 V.u, n8 V.u, n8 V.u, n8 V.u, n8 V.u, n8 V.u, n8 V.u⟩ : L8) h fun x e h => finK (fun e h k => k (V.x .tup (vc e.c0.c0 (vc e.c0.c1 V.nil)) V.nil)) k x e h)
theorem e367 : FnEq Tryz.prog G LF OF 367 T367 := fun cf lf => by kernel_rfl
theorem c367 : chkF Tryz.prog LF OF 367 = true := by kernel_rfl
def F376_0 (a : V) : M := fun b c d => lssW a (wI 10) fun g => condV g (addW a (wI 1) fun i => sstr (some a) (some i) (V.s 36 237927390410950444456928663707796224754864904193074819559483181009558347043374296609072) fun j => sl0 j b fun m => d X.r m c) (d X.n b c)
def F376_1 : M := fun a b c => mulV a.c0.c1 (wI 2) fun d => mulV a.c0.c1 (wI 2) fun g => addW g (wI 2) fun i => sstr (some d) (some i) (V.s 200 9938655150514779720929161263213647789093395803754561035662628441001274968862597953692946393464194303251501229616933063375291039650253924995779037586872666250072396106842829501851083234932712366962979930255066872747696324303968523733872590022915936937156789320557469720923390131174387415513794469201054844961267015441141542819553679203788501627738430154234325528792480477051962324423099068299719245009424585859096469223093538032153047611602695245052081125123941502624659711709950000) fun j => sl0 j a fun m => c X.r m b
def F376_2 (a : V) : M := fun b c d => sl0 (V.s 0 0) b fun g => seqM (F376_0 a) (F376_1) g c d
def T376 (cf : CallF) (lf : Nat) : V → H → KV → Bool := fun l h k => onCons l fun a b => onNil b ((F376_2 a) (⟨⟨V.u, a, V.u, V.u, V.u, V.u, V.u, V.u⟩, n8 V.u, n8 V.u, n8 V.u, n8 V.u, n8 V.u, n8 V.u, n8 V.u⟩ : L8) h fun x e h => finK (fun e h k => k e.c0.c0) k x e h)
theorem e376 : FnEq Tryz.prog G LF OF 376 T376 := fun cf lf => by kernel_rfl
theorem c376 : chkF Tryz.prog LF OF 376 = true := by kernel_rfl
def F380_0 (a : V) : M := fun b c d => eqN nilI nots a (V.x .inil V.nil V.nil) fun g => condV g (sl0 (wI 0) b fun i => sl1 a i fun j => d X.r j c) (d X.n b c)
def F380_1 : M := fun a b c => cf 360 (vc a.c0.c4 (vc (V.s 1 58) V.nil)) b fun d g => condV d (fadV 2 a.c0.c3 fun i => st true 1 i a.c0.c2 g fun j m => cf 361 (vc a.c0.c4 V.nil) m fun n o => ext 0 n fun p => ext 1 n fun q => fadV 1 a.c0.c3 fun r => st true 1 r p o fun s t => eqN nilI nots q (V.x .inil V.nil V.nil) fun u => condV u (sl0 (wI 0) a fun v => sl1 q v fun w => c X.r w t) (c X.n a t)) (c X.n a g)
def F380_2 : M := fun a b c => cf 388 (vc a.c0.c4 V.nil) b fun d g => ext 0 d fun i => ext 1 d fun j => fadV 4 a.c0.c3 fun m => st true 1 m i g fun n o => eqN nilI nots j (V.x .inil V.nil V.nil) fun p => condV p (sl0 (wI 0) a fun q => sl1 j q fun r => c X.r r o) (c X.n a o)
def F380_3 : M := fun a b c => cf 382 (vc a.c0.c4 (vc (V.t false) V.nil)) b fun d g => ext 0 d fun i => ext 1 d fun j => fadV 4 a.c0.c3 fun m => ld1 m g fun n => app 1 3 n i g fun o p => fadV 4 a.c0.c3 fun q => st true 1 q o p fun r s => lda 5 a.c0.c3 s fun t => cf 298 (vc a.c0.c4 (vc t (vc j V.nil))) s fun u v => ext 0 u fun w => ext 1 u fun y => sl0 w a fun a0 => sl1 y a0 fun b0 => c X.r b0 v
def F380_4 : M := fun a b c => fadV 1 a.c0.c3 fun d => st true 1 d a.c0.c2 b fun g i => seqM (F380_1 cf) (seqM (F380_2 cf) (F380_3 cf)) a i c
def F380_5 (a : H) (b : L8) (c : V) (d : KX) := part 0 true 1 (wI 4) (vc (wI 0) (vc (V.s 0 0) (vc (V.s 0 0) (vc (wI 0) (vc vN V.nil))))) fun g => resv 1 a fun i j => newA i false 5 107 (V.x .agg (vc (wI 0) (vc (V.s 0 0) (vc (V.s 0 0) (vc (wI 0) (vc vN V.nil))))) V.nil) j fun m n => sl3 m b fun o => st false 5 m (V.x .agg g V.nil) n fun p q => cf 361 (vc c V.nil) q fun r s => ext 0 r fun t => ext 1 r fun u => sl2 t o fun v => seqM (F380_0 u) (F380_4 cf) v s d
def F380_6 (a : V) : M := fun b c d => sl0 (wI 0) b fun g => sl1 (V.x .inil V.nil V.nil) g fun i => F380_5 cf c i a d
def T380 (cf : CallF) (lf : Nat) : V → H → KV → Bool := fun l h k => onCons l fun a b => onNil b ((F380_6 cf a) (⟨⟨V.u, V.u, V.u, V.u, a, V.u, V.u, V.u⟩, n8 V.u, n8 V.u, n8 V.u, n8 V.u, n8 V.u, n8 V.u, n8 V.u⟩ : L8) h fun x e h => finK (fun e h k => k (V.x .tup (vc e.c0.c0 (vc e.c0.c1 V.nil)) V.nil)) k x e h)
theorem e380 : FnEq Tryz.prog G LF OF 380 T380 := fun cf lf => by kernel_rfl
theorem c380 : chkF Tryz.prog LF OF 380 = true := by kernel_rfl
def F381_0 : M := fun a b c => cf 360 (vc a.c0.c2 (vc (V.s 1 64) V.nil)) b fun d g => condV d (c X.n a g) (c (X.x 0) a g)
def F381_1 (a : V) : M := fun b c d => eqN nilI nots a (V.x .inil V.nil V.nil) fun g => condV g (sl0 vN b fun i => sl1 a i fun j => d X.r j c) (d X.n b c)
def F381_2 (a : V) : M := fun b c d => eqN nilI nots a (V.x .inil V.nil V.nil) fun g => condV g (cf 297 (vc (V.s 9 1871653630383947409764) (vc a V.nil)) c fun i j => sl0 vN b fun m => sl1 i m fun n => d X.r n j) (d X.n b c)
def F381_3 : M := fun a b c => resv 1 b fun d g => part 0 true 1 a.c0.c4 (vc (wI 0) V.nil) fun i => bslA d 1 1 3 i g fun j m => app 1 3 a.c0.c0 j m fun n o => sl0 n a fun p => c X.n p o
def F381_4 (a : L8) (b c : V) (d : H) (g : KX) := part 0 true 1 (wI 6) (vc (wI 0) (vc (V.s 0 0) (vc (V.s 0 0) (vc (wI 0) (vc vN V.nil))))) fun i => part 1 true 1 a.c0.c3 i fun j => part 4 true 1 b j fun m => cf 298 (vc a.c0.c2 (vc (V.x .agg m V.nil) (vc c V.nil))) d fun n o => ext 0 n fun p => ext 1 n fun q => sl4 p a fun r => seqM (F381_2 cf q) (F381_3) r o g
def F381_5 : M := fun a b c => cf 388 (vc a.c0.c2 V.nil) b fun d g => ext 0 d fun i => ext 1 d fun j => F381_4 cf a i j g c
def F381_6 : M := fun a b c => cf 361 (vc a.c0.c2 V.nil) b fun d g => ext 0 d fun i => ext 1 d fun j => sl3 i a fun m => seqM (F381_1 j) (F381_5 cf) m g c
def F381_7 : M := fun a b c => sl0 a.c0.c0 a fun d => sl1 (V.x .inil V.nil V.nil) d fun g => c X.r g b
def F381_8 : M := fun a b c => sl0 vN a fun d => sl1 (V.x .inil V.nil V.nil) d fun g => seqM (blockM 0 (loopM lf (seqM (F381_0 cf) (blockM 1 (F381_6 cf))))) (F381_7) g b c
def T381 (cf : CallF) (lf : Nat) : V → H → KV → Bool := fun l h k => onCons l fun a b => onNil b ((F381_8 cf lf) (⟨⟨V.u, V.u, a, V.u, V.u, V.u, V.u, V.u⟩, n8 V.u, n8 V.u, n8 V.u, n8 V.u, n8 V.u, n8 V.u, n8 V.u⟩ : L8) h fun x e h => finK (fun e h k => k (V.x .tup (vc e.c0.c0 (vc e.c0.c1 V.nil)) V.nil)) k x e h)
theorem e381 : FnEq Tryz.prog G LF OF 381 T381 := fun cf lf => by kernel_rfl
theorem c381 : chkF Tryz.prog LF OF 381 = true := by kernel_rfl
def F382_0 (a b c d : V) : M := fun g i j => eqN nilI nots a (V.x .inil V.nil V.nil) fun m => guardF m i (fun n => n b i) fun o p => guardF m p (fun q => notV o fun r => q r p) fun s t => guardF m t (fun u => u s t) fun v w => guardT v w (fun y => y c w) fun a0 b0 => guardT v b0 (fun c0 => cf 330 (vc a0 V.nil) b0 fun d0 g0 => c0 d0 g0) fun i0 j0 => guardT v j0 (fun m0 => neqS i0 (V.s 1 123) fun n0 => m0 n0 j0) fun o0 p0 => guardF m p0 (fun q0 => pickV v o0 (V.t false) fun r0 => q0 r0 p0) fun s0 t0 => pickV m (V.t true) s0 fun u0 => condV u0 (sl0 d g fun v0 => sl1 a v0 fun w0 => j X.r w0 t0) (j X.n g t0)
def F382_1 : M := fun a b c => cf 333 (vc a.c0.c2 V.nil) b fun d g => ext 0 d fun i => ext 1 d fun j => app 1 3 a.c0.c3 i g fun m n => sl0 m a fun o => sl1 j o fun p => c X.r p n
def F382_2 (a b : V) : M := fun c d g => sl0 vN c fun i => sl1 (V.x .inil V.nil V.nil) i fun j => cf 381 (vc a V.nil) d fun m n => ext 0 m fun o => ext 1 m fun p => sl3 o j fun q => seqM (F382_0 cf p b a o) (F382_1 cf) q n g
def T382 (cf : CallF) (lf : Nat) : V → H → KV → Bool := fun l h k => onCons l fun a b => onCons b fun c d => onNil d ((F382_2 cf a c) (⟨⟨V.u, V.u, a, V.u, V.u, V.u, V.u, V.u⟩, n8 V.u, n8 V.u, n8 V.u, n8 V.u, n8 V.u, n8 V.u, n8 V.u⟩ : L8) h fun x e h => finK (fun e h k => k (V.x .tup (vc e.c0.c0 (vc e.c0.c1 V.nil)) V.nil)) k x e h)
theorem e382 : FnEq Tryz.prog G LF OF 382 T382 := fun cf lf => by kernel_rfl
theorem c382 : chkF Tryz.prog LF OF 382 = true := by kernel_rfl
def F388_0 (a : V) : M := fun b c d => cf 360 (vc a (vc (V.s 1 40) V.nil)) c fun g i => notV g fun j => condV j (sl0 vN b fun m => sl1 (V.x .inil V.nil V.nil) m fun n => d X.r n i) (d X.n b i)
def F388_1 : M := fun a b c => cf 362 (vc a.c0.c2 (vc (V.s 1 41) (vc (V.x (.func 391) (vc a.c0.c2 V.nil) V.nil) V.nil))) b fun d g => ext 0 d fun i => ext 1 d fun j => cf 297 (vc (V.s 9 2129765323153231802977) (vc j V.nil)) g fun m n => sl0 i a fun o => sl1 m o fun p => c X.r p n
def F388_2 (a : V) : M := fun b c d => sl0 vN b fun g => sl1 (V.x .inil V.nil V.nil) g fun i => seqM (F388_0 cf a) (F388_1 cf) i c d
def T388 (cf : CallF) (lf : Nat) : V → H → KV → Bool := fun l h k => onCons l fun a b => onNil b ((F388_2 cf a) (⟨⟨V.u, V.u, a, V.u, V.u, V.u, V.u, V.u⟩, n8 V.u, n8 V.u, n8 V.u, n8 V.u, n8 V.u, n8 V.u, n8 V.u⟩ : L8) h fun x e h => finK (fun e h k => k (V.x .tup (vc e.c0.c0 (vc e.c0.c1 V.nil)) V.nil)) k x e h)
theorem e388 : FnEq Tryz.prog G LF OF 388 T388 := fun cf lf => by kernel_rfl
theorem c388 : chkF Tryz.prog LF OF 388 = true := by kernel_rfl
def F391_0 (a : V) : M := fun b c d => eqN nilI nots a (V.x .inil V.nil V.nil) fun g => condV g (sl0 (wI 0) b fun i => sl1 a i fun j => d X.r j c) (d X.n b c)
def F391_1 : M := fun a b c => cf 365 (vc a.c0.c2 (vc (V.s 1 58) V.nil)) b fun d g => eqN nilI nots d (V.x .inil V.nil V.nil) fun i => condV i (sl0 (wI 0) a fun j => sl1 d j fun m => c X.r m g) (c X.n a g)
def F391_2 (a : H) (b : V) (c : L8) (d : V) (g : KX) := resv 1 a fun i j => part 0 true 1 b (vc (wI 0) V.nil) fun m => bslA i 1 1 3 m j fun n o => part 0 true 1 (wI 5) (vc (wI 0) (vc (V.s 0 0) (vc (V.s 0 0) (vc (wI 0) (vc vN V.nil))))) fun p => part 1 true 1 c.c0.c3 p fun q => part 4 true 1 n q fun r => cf 298 (vc c.c0.c2 (vc (V.x .agg r V.nil) (vc d V.nil))) o fun s t => ext 0 s fun u => ext 1 s fun v => sl0 u c fun w => sl1 v w fun y => g X.r y t
def F391_3 : M := fun a b c => cf 392 (vc a.c0.c2 V.nil) b fun d g => ext 0 d fun i => ext 1 d fun j => F391_2 cf g i a j c
def F391_4 (a : V) : M := fun b c d => sl0 (wI 0) b fun g => sl1 (V.x .inil V.nil V.nil) g fun i => cf 361 (vc a V.nil) c fun j m => ext 0 j fun n => ext 1 j fun o => sl3 n i fun p => seqM (F391_0 o) (seqM (F391_1 cf) (F391_3 cf)) p m d
def T391 (cf : CallF) (lf : Nat) : V → H → KV → Bool := fun l h k => onCons l fun a b => onNil b ((F391_4 cf a) (⟨⟨V.u, V.u, a, V.u, V.u, V.u, V.u, V.u⟩, n8 V.u, n8 V.u, n8 V.u, n8 V.u, n8 V.u, n8 V.u, n8 V.u⟩ : L8) h fun x e h => finK (fun e h k => k (V.x .tup (vc e.c0.c0 (vc e.c0.c1 V.nil)) V.nil)) k x e h)
theorem e391 : FnEq Tryz.prog G LF OF 391 T391 := fun cf lf => by kernel_rfl
theorem c391 : chkF Tryz.prog LF OF 391 = true := by kernel_rfl
def F392_0 (a : V) : M := fun b c d => eqlS a (V.s 1 36) fun g => condV g (d (X.x 1) b c) (d X.n b c)
def F392_1 : M := fun a b c => cf 393 (vc a.c0.c2 V.nil) b fun d g => condV d (c (X.x 2) a g) (c X.n a g)
def F392_2 : M := fun a b c => cf 395 (vc a.c0.c2 V.nil) b fun d g => condV d (c (X.x 3) a g) (c X.n a g)
def F392_3 : M := fun a b c => eqlS a.c0.c2 (V.s 4 1819047278) fun d => condV d (c (X.x 4) a b) (c X.n a b)
def F392_4 : M := fun a b c => eqlS a.c0.c2 (V.s 4 1702195828) fun d => condV d (c (X.x 5) a b) (c X.n a b)
def F392_5 : M := fun a b c => eqlS a.c0.c2 (V.s 5 435728179558) fun d => condV d (c (X.x 6) a b) (c X.n a b)
def F392_6 (a : L8) (b : H) (c : KX) := cf 361 (vc a.c0.c3 V.nil) b fun d g => ext 0 d fun i => ext 1 d fun j => part 0 true 1 (wI 14) (vc (wI 0) (vc (V.s 0 0) (vc (V.s 0 0) (vc (wI 0) (vc vN V.nil))))) fun m => part 1 true 1 i m fun n => cf 298 (vc a.c0.c3 (vc (V.x .agg n V.nil) (vc j V.nil))) g fun o p => ext 0 o fun q => ext 1 o fun r => sl0 q a fun s => sl1 r s fun t => c X.r t p
def F392_7 : M := fun a b c => nilckV a.c0.c3 fun d => fadV 1 d fun g => ld1 g b fun i => addW i (wI 1) fun j => nilckV a.c0.c3 fun m => fadV 1 m fun n => st true 1 n j b fun o p => F392_6 cf a p c
def F392_8 : M := fun a b c => cf 394 (vc a.c0.c2 V.nil) b fun d g => ext 0 d fun i => ext 1 d fun j => fadV 3 a.c0.c4 fun m => st true 1 m i g fun n o => c (X.x 0) a o
def F392_9 : M := fun a b c => fadV 0 a.c0.c4 fun d => st true 1 d (wI 11) b fun g i => cf 396 (vc a.c0.c2 V.nil) i fun j m => ext 0 j fun n => ext 1 j fun o => fadV 1 a.c0.c4 fun p => st true 1 p n m fun q r => c X.n a r
def F392_10 : M := fun a b c => fadV 0 a.c0.c4 fun d => st true 1 d (wI 13) b fun g i => c (X.x 0) a i
def F392_11 : M := fun a b c => fadV 3 a.c0.c4 fun d => st true 1 d (wI 1) b fun g i => c X.n a i
def F392_12 : M := fun a b c => fadV 0 a.c0.c4 fun d => st true 1 d (wI 12) b fun g i => c (X.x 0) a i
def F392_13 : M := fun a b c => cf 364 (vc a.c0.c3 V.nil) b fun d g => sl0 (wI 0) a fun i => sl1 d i fun j => c X.r j g
def F392_14 : M := fun a b c => c (X.x 0) a b
def F392_15 (a : V) (b : L8) (c : H) (d : KX) := blockM 0 (seqM (blockM 7 (seqM (blockM 6 (seqM (blockM 5 (seqM (blockM 4 (seqM (blockM 3 (seqM (blockM 2 (seqM (blockM 1 (seqM (seqM (F392_0 a) (seqM (F392_1 cf) (seqM (F392_2 cf) (seqM (F392_3) (seqM (F392_4) (F392_5)))))) (fun g i j => j (X.x 7) g i))) (seqM (F392_7 cf) (fun m n o => o (X.x 0) m n)))) (F392_8 cf))) (seqM (F392_9 cf) (fun p q r => r (X.x 0) p q)))) (F392_10))) (F392_11))) (F392_12))) (seqM (F392_13 cf) (F392_14))) b c d
def F392_16 (a : V) : M := fun b c d => cf 330 (vc a V.nil) c fun g i => sl2 g b fun j => F392_15 cf g j i d
def F392_17 : M := fun a b c => nilckV a.c0.c3 fun d => fadV 1 d fun g => ld1 g b fun i => addW i (wI 1) fun j => nilckV a.c0.c3 fun m => fadV 1 m fun n => st true 1 n j b fun o p => lda 5 a.c0.c4 p fun q => cf 298 (vc a.c0.c3 (vc q (vc (V.x .inil V.nil V.nil) V.nil))) p fun r s => ext 0 r fun t => ext 1 r fun u => sl0 t a fun v => sl1 u v fun w => c X.r w s
def F392_18 (a : H) (b : L8) (c : V) (d : KX) := part 0 true 1 (wI 10) (vc (wI 0) (vc (V.s 0 0) (vc (V.s 0 0) (vc (wI 0) (vc vN V.nil))))) fun g => resv 1 a fun i j => newA i false 5 107 (V.x .agg (vc (wI 0) (vc (V.s 0 0) (vc (V.s 0 0) (vc (wI 0) (vc vN V.nil))))) V.nil) j fun m n => sl4 m b fun o => st false 5 m (V.x .agg g V.nil) n fun p q => seqM (F392_16 cf c) (F392_17 cf) o q d
def F392_19 (a : V) : M := fun b c d => sl0 (wI 0) b fun g => sl1 (V.x .inil V.nil V.nil) g fun i => F392_18 cf c i a d
def T392 (cf : CallF) (lf : Nat) : V → H → KV → Bool := fun l h k => onCons l fun a b => onNil b ((F392_19 cf a) (⟨⟨V.u, V.u, V.u, a, V.u, V.u, V.u, V.u⟩, n8 V.u, n8 V.u, n8 V.u, n8 V.u, n8 V.u, n8 V.u, n8 V.u⟩ : L8) h fun x e h => finK (fun e h k => k (V.x .tup (vc e.c0.c0 (vc e.c0.c1 V.nil)) V.nil)) k x e h)
theorem e392 : FnEq Tryz.prog G LF OF 392 T392 := fun cf lf => by kernel_rfl
theorem c392 : chkF Tryz.prog LF OF 392 = true := by kernel_rfl
def F393_0 (a : V) (b : H) (c : L8) (d : KX) := cf 190 (vc a V.nil) b fun g i => guardT g i (fun j => j a i) fun m n => guardT g n (fun o => sidxV m (wI 0) fun p => o p n) fun q r => guardT g r (fun s => eqlY q (V.y 45) fun t => s t r) fun u v => guardT g v (fun w => w u v) fun y a0 => guardF y a0 (fun b0 => b0 a a0) fun c0 d0 => guardF y d0 (fun g0 => sidxV c0 (wI 0) fun i0 => g0 i0 d0) fun j0 m0 => guardF y m0 (fun n0 => cf 301 (vc j0 V.nil) m0 fun o0 p0 => n0 o0 p0) fun q0 r0 => guardT g r0 (fun s0 => pickV y (V.t true) q0 fun t0 => s0 t0 r0) fun u0 v0 => pickV g u0 (V.t false) fun w0 => sl0 w0 c fun y0 => d X.r y0 v0
def F393_1 (a : V) : M := fun b c d => sl0 (V.t false) b fun g => F393_0 cf a c g d
def T393 (cf : CallF) (lf : Nat) : V → H → KV → Bool := fun l h k => onCons l fun a b => onNil b ((F393_1 cf a) (⟨n8 V.u, n8 V.u, n8 V.u, n8 V.u, n8 V.u, n8 V.u, n8 V.u, n8 V.u⟩ : L8) h fun x e h => finK (fun e h k => k e.c0.c0) k x e h)
theorem e393 : FnEq Tryz.prog G LF OF 393 T393 := fun cf lf => by kernel_rfl
theorem c393 : chkF Tryz.prog LF OF 393 = true := by kernel_rfl
def F394_0 (a : V) : M := fun b c d => cf 393 (vc a V.nil) c fun g i => notV g fun j => condV j (sl0 (wI 0) b fun m => sl1 (wI 1) m fun n => d X.r n i) (d X.n b i)
def F394_1 : M := fun a b c => cf 302 (vc a.c0.c2 V.nil) b fun d g => ext 0 d fun i => ext 1 d fun j => ext 2 d fun m => sl0 i a fun n => sl1 (wI 0) n fun o => c X.r o g
def F394_2 (a : V) : M := fun b c d => sl0 (wI 0) b fun g => sl1 (wI 0) g fun i => seqM (F394_0 cf a) (F394_1 cf) i c d
def T394 (cf : CallF) (lf : Nat) : V → H → KV → Bool := fun l h k => onCons l fun a b => onNil b ((F394_2 cf a) (⟨⟨V.u, V.u, a, V.u, V.u, V.u, V.u, V.u⟩, n8 V.u, n8 V.u, n8 V.u, n8 V.u, n8 V.u, n8 V.u, n8 V.u⟩ : L8) h fun x e h => finK (fun e h k => k (V.x .tup (vc e.c0.c0 (vc e.c0.c1 V.nil)) V.nil)) k x e h)
theorem e394 : FnEq Tryz.prog G LF OF 394 T394 := fun cf lf => by kernel_rfl
theorem c394 : chkF Tryz.prog LF OF 394 = true := by kernel_rfl
def F395_0 (a : V) : M := fun b c d => sl0 (V.t false) b fun g => cf 190 (vc a V.nil) c fun i j => guardT i j (fun m => m a j) fun n o => guardT i o (fun p => sidxV n (wI 0) fun q => p q o) fun r s => guardT i s (fun t => eqlY r (V.y 34) fun u => t u s) fun v w => pickV i v (V.t false) fun y => sl0 y g fun a0 => d X.r a0 w
def T395 (cf : CallF) (lf : Nat) : V → H → KV → Bool := fun l h k => onCons l fun a b => onNil b ((F395_0 cf a) (⟨n8 V.u, n8 V.u, n8 V.u, n8 V.u, n8 V.u, n8 V.u, n8 V.u, n8 V.u⟩ : L8) h fun x e h => finK (fun e h k => k e.c0.c0) k x e h)
theorem e395 : FnEq Tryz.prog G LF OF 395 T395 := fun cf lf => by kernel_rfl
theorem c395 : chkF Tryz.prog LF OF 395 = true := by kernel_rfl
def F396_0 (a : V) : M := fun b c d => cf 395 (vc a V.nil) c fun g i => notV g fun j => condV j (sl0 (V.s 0 0) b fun m => sl1 (wI 1) m fun n => d X.r n i) (d X.n b i)
def F396_1 : M := fun a b c => cf 303 (vc a.c0.c2 V.nil) b fun d g => ext 0 d fun i => ext 1 d fun j => ext 2 d fun m => sl0 i a fun n => sl1 (wI 0) n fun o => c X.r o g
def F396_2 (a : V) : M := fun b c d => sl0 (V.s 0 0) b fun g => sl1 (wI 0) g fun i => seqM (F396_0 cf a) (F396_1 cf) i c d
def T396 (cf : CallF) (lf : Nat) : V → H → KV → Bool := fun l h k => onCons l fun a b => onNil b ((F396_2 cf a) (⟨⟨V.u, V.u, a, V.u, V.u, V.u, V.u, V.u⟩, n8 V.u, n8 V.u, n8 V.u, n8 V.u, n8 V.u, n8 V.u, n8 V.u⟩ : L8) h fun x e h => finK (fun e h k => k (V.x .tup (vc e.c0.c0 (vc e.c0.c1 V.nil)) V.nil)) k x e h)
theorem e396 : FnEq Tryz.prog G LF OF 396 T396 := fun cf lf => by kernel_rfl
theorem c396 : chkF Tryz.prog LF OF 396 = true := by kernel_rfl
end
end Go.Bvm.YtfcknednlkfmpaaGreatDoorTS
