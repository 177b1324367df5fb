/- The functions that this law reaches, as the abstract machine's terms, each held against the program by the kernel. Printed by a program of this session's. Conditions: none. -/
import Derived.Test.YtfcknednlkfmpaaGreatDoorTP0
set_option linter.unusedVariables false
set_option maxRecDepth 100000
namespace Go.Bvm.YtfcknednlkfmpaaGreatDoorTP
open Go.Proofs
noncomputable section
variable (cf : CallF) (lf : Nat)
def F192_0 (a : V) : M := fun b c d => condV a (d X.n b c) (d (X.x 0) b c)
def F192_1 : M := fun a b c => iadV 4 a.c0.c4 a.c0.c1 fun d => lda 4 d b fun g => callV cf a.c0.c3 (vc g V.nil) b fun i j => condV i (sl0 a.c0.c1 a fun m => c X.r m j) (c X.n a j)
def F192_2 : M := fun a b c => addW a.c0.c1 (wI 1) fun d => sl1 d a fun g => c X.n g b
def F192_3 : M := fun a b c => lssW a.c0.c1 a.c0.c2 fun d => seqM (F192_0 d) (seqM (blockM 1 (F192_1 cf)) (F192_2)) a b c
def F192_4 (a : V) : M := fun b c d => lenL a fun g => sl2 g b fun i => sl1 (wI 0) i fun j => blockM 0 (loopM lf (F192_3 cf)) j c d
def F192_5 : M := fun a b c => sl0 (V.w 9223372036854775807) a fun d => c X.r d b
def F192_6 (a : V) : M := fun b c d => sl0 (wI 0) b fun g => seqM (F192_4 cf lf a) (F192_5) g c d
def T192 (cf : CallF) (lf : Nat) : V → H → KV → Bool := fun l h k => onCons l fun a b => onCons b fun c d => onNil d ((F192_6 cf lf a) (⟨⟨V.u, V.u, V.u, c, a, V.u, V.u, V.u⟩, n8 V.u, n8 V.u, n8 V.u, n8 V.u, n8 V.u, n8 V.u, n8 V.u⟩ : L8) h fun x e h => finK (fun e h k => k e.c0.c0) k x e h)
theorem e192 : FnEq Tryz.prog G LF OF 192 T192 := fun cf lf => by kernel_rfl
theorem c192 : chkF Tryz.prog LF OF 192 = true := by kernel_rfl
def F193_0 (a b : V) : M := fun c d g => resv 1 d fun i j => newA i false 4 113 a j fun m n => sl0 (V.t false) c fun o => fadV 0 m fun p => ld1 p n fun q => ld1 b n fun r => eqlS q r fun s => sl0 s o fun t => g X.r t n
def T193 (cf : CallF) (lf : Nat) : V → H → KV → Bool := fun l h k => onCons l fun a b => onCons b fun c d => onNil d ((F193_0 a c) (⟨n8 V.u, n8 V.u, n8 V.u, n8 V.u, n8 V.u, n8 V.u, n8 V.u, n8 V.u⟩ : L8) h fun x e h => finK (fun e h k => k e.c0.c0) k x e h)
theorem e193 : FnEq Tryz.prog G LF OF 193 T193 := fun cf lf => by kernel_rfl
theorem c193 : chkF Tryz.prog LF OF 193 = true := by kernel_rfl
def F194_0 (a : H) (b : V) (c : L8) (d : KX) := resv 1 a fun g i => part 0 true 1 (V.s 6 127996004758115) (vc (V.s 0 0) (vc (V.s 0 0) V.nil)) fun j => part 1 true 1 (V.s 5 499984262500) j fun m => bslA g 2 1 9 m i fun n o => resv 1 o fun p q => part 0 true 1 (V.s 3 7632240) (vc (V.s 0 0) (vc (V.s 0 0) V.nil)) fun r => part 1 true 1 (V.s 4 1701536116) r fun s => bslA p 2 1 9 s q fun t u => resv 1 u fun v w => part 0 true 1 (V.s 4 1802465122) (vc (V.s 0 0) (vc (V.s 0 0) V.nil)) fun y => part 1 true 1 (V.s 6 119182715674979) y fun a0 => bslA v 2 1 9 a0 w fun b0 c0 => resv 1 c0 fun d0 g0 => part 0 true 1 (V.s 4 1684956531) (vc (V.s 0 0) (vc (V.s 0 0) V.nil)) fun i0 => part 1 true 1 (V.s 6 119212746171762) i0 fun j0 => bslA d0 2 1 9 j0 g0 fun m0 n0 => resv 1 n0 fun o0 p0 => part 0 true 1 vN (vc vN (vc vN (vc vN (vc vN (vc vN V.nil))))) fun q0 => part 1 true 1 n q0 fun r0 => part 2 true 1 t r0 fun s0 => part 3 true 1 b0 s0 fun t0 => part 4 true 1 m0 t0 fun u0 => bslA o0 5 1 22 u0 p0 fun v0 w0 => iadV 1 v0 b fun y0 => ld1 y0 w0 fun a1 => sl0 a1 c fun b1 => d X.r b1 w0
def F194_1 (a : V) : M := fun b c d => sl0 vN b fun g => F194_0 c a g d
def T194 (cf : CallF) (lf : Nat) : V → H → KV → Bool := fun l h k => onCons l fun a b => onNil b ((F194_1 a) (⟨n8 V.u, n8 V.u, n8 V.u, n8 V.u, n8 V.u, n8 V.u, n8 V.u, n8 V.u⟩ : L8) h fun x e h => finK (fun e h k => k e.c0.c0) k x e h)
theorem e194 : FnEq Tryz.prog G LF OF 194 T194 := fun cf lf => by kernel_rfl
theorem c194 : chkF Tryz.prog LF OF 194 = true := by kernel_rfl
def F195_0 (a b : V) : M := fun c d g => sl0 (V.t false) c fun i => cf 253 (vc a (vc b V.nil)) d fun j m => geqV j (wI 0) fun n => sl0 n i fun o => g X.r o m
def T195 (cf : CallF) (lf : Nat) : V → H → KV → Bool := fun l h k => onCons l fun a b => onCons b fun c d => onNil d ((F195_0 cf a c) (⟨n8 V.u, n8 V.u, n8 V.u, n8 V.u, n8 V.u, n8 V.u, n8 V.u, n8 V.u⟩ : L8) h fun x e h => finK (fun e h k => k e.c0.c0) k x e h)
theorem e195 : FnEq Tryz.prog G LF OF 195 T195 := fun cf lf => by kernel_rfl
theorem c195 : chkF Tryz.prog LF OF 195 = true := by kernel_rfl
def F196_0 (a : V) : M := fun b c d => sl0 (V.t false) b fun g => geqV a (V.w 9223372035781033984) fun i => guardT i c (fun j => j a c) fun m n => guardT i n (fun o => leqW m (V.w 9223372037928517632) fun p => o p n) fun q r => pickV i q (V.t false) fun s => sl0 s g fun t => d X.r t r
def T196 (cf : CallF) (lf : Nat) : V → H → KV → Bool := fun l h k => onCons l fun a b => onNil b ((F196_0 a) (⟨n8 V.u, n8 V.u, n8 V.u, n8 V.u, n8 V.u, n8 V.u, n8 V.u, n8 V.u⟩ : L8) h fun x e h => finK (fun e h k => k e.c0.c0) k x e h)
theorem e196 : FnEq Tryz.prog G LF OF 196 T196 := fun cf lf => by kernel_rfl
theorem c196 : chkF Tryz.prog LF OF 196 = true := by kernel_rfl
def F202_0 (a : V) : M := fun b c d => condV a (d X.n b c) (d (X.x 0) b c)
def F202_1 : M := fun a b c => iadV 1 a.c0.c2 a.c0.c0 fun d => ld1 d b fun g => resv 0 b fun i j => nilckV a.c0.c3 fun m => fadV 0 m fun n => ld1 n j fun o => nilckV a.c0.c3 fun p => fadV 0 p fun q => ld1 q j fun r => iadV 5 r g fun s => fadV 1 s fun t => ld1 t j fun u => cf 257 (vc o (vc u V.nil)) j fun v w => eqlW v g fun y => cf 204 (vc a.c0.c3 (vc y (vc (wI 5) V.nil))) w fun a0 b0 => c X.n a b0
def F202_2 : M := fun a b c => addW a.c0.c0 (wI 1) fun d => sl0 d a fun g => c X.n g b
def F202_3 : M := fun a b c => lssW a.c0.c0 a.c0.c1 fun d => seqM (F202_0 d) (seqM (blockM 1 (F202_1 cf)) (F202_2)) a b c
def F202_4 (a : V) : M := fun b c d => sl2 a b fun g => lenL a fun i => sl1 i g fun j => sl0 (wI 0) j fun m => blockM 0 (loopM lf (F202_3 cf)) m c d
def F202_5 (a : V) : M := fun b c d => condV a (d X.n b c) (d (X.x 2) b c)
def F202_6 : M := fun a b c => iadV 1 a.c0.c7 a.c0.c5 fun d => ld1 d b fun g => resv 0 b fun i j => nilckV a.c0.c3 fun m => fadV 0 m fun n => ld1 n j fun o => iadV 5 o g fun p => fadV 2 p fun q => ld1 q j fun r => cf 258 V.nil j fun s t => ld1 n t fun u => both (eqV u o) (ld1 q t fun v => both (eqV v r) (cf 195 (vc s (vc r V.nil)) t fun w y => cf 204 (vc a.c0.c3 (vc w (vc (wI 6) V.nil))) y fun a0 b0 => c X.n a b0))
def F202_7 : M := fun a b c => addW a.c0.c5 (wI 1) fun d => sl5 d a fun g => c X.n g b
def F202_8 : M := fun a b c => lssW a.c0.c5 a.c0.c6 fun d => seqM (F202_5 d) (seqM (blockM 3 (F202_6 cf)) (F202_7)) a b c
def F202_9 : M := fun a b c => sl7 a.c0.c4 a fun d => lenL a.c0.c4 fun g => sl6 g d fun i => sl5 (wI 0) i fun j => blockM 2 (loopM lf (F202_8 cf)) j b c
def F202_10 (a : V) : M := fun b c d => condV a (d X.n b c) (d (X.x 4) b c)
def F202_11 (a : H) (b : V) (c : L8) (d : KX) := resv 0 a fun g i => fadV 0 b fun j => ld1 j i fun m => neqW m (wI 7) fun n => guardF n i (fun o => o c.c0.c3 i) fun p q => guardF n q (fun r => nilckV p fun s => r s q) fun t u => guardF n u (fun v => fadV 0 t fun w => v w u) fun y a0 => guardF n a0 (fun b0 => ld1 y a0 fun c0 => b0 c0 a0) fun d0 g0 => guardF n g0 (fun i0 => fadV 1 b fun j0 => i0 j0 g0) fun m0 n0 => guardF n n0 (fun o0 => ld1 m0 n0 fun p0 => o0 p0 n0) fun q0 r0 => guardF n r0 (fun s0 => cf 257 (vc d0 (vc q0 V.nil)) r0 fun t0 u0 => s0 t0 u0) fun v0 w0 => guardF n w0 (fun y0 => geqV v0 (wI 0) fun a1 => y0 a1 w0) fun b1 c1 => pickV n (V.t true) b1 fun d1 => cf 204 (vc c.c0.c3 (vc d1 (vc (wI 5) V.nil))) c1 fun g1 i1 => d X.n c i1
def F202_12 : M := fun a b c => iadV 5 a.c1.c2 a.c1.c0 fun d => lda 5 d b fun g => resv 1 b fun i j => newA i false 5 107 (V.x .agg (vc (wI 0) (vc (V.s 0 0) (vc (V.s 0 0) (vc (wI 0) (vc vN V.nil))))) V.nil) j fun m n => st false 5 m g n fun o p => F202_11 cf p m a c
def F202_13 : M := fun a b c => addW a.c1.c0 (wI 1) fun d => sl8 d a fun g => c X.n g b
def F202_14 : M := fun a b c => lssW a.c1.c0 a.c1.c1 fun d => seqM (F202_10 d) (seqM (blockM 5 (F202_12 cf)) (F202_13)) a b c
def F202_15 : M := fun a b c => nilckV a.c0.c3 fun d => fadV 0 d fun g => ld1 g b fun i => sl10 i a fun j => lenL i fun m => sl9 m j fun n => sl8 (wI 0) n fun o => blockM 4 (loopM lf (F202_14 cf)) o b c
def F202_16 (a : V) : M := fun b c d => condV a (d X.n b c) (d (X.x 6) b c)
def F202_17 (a : L8) (b : H) (c : V) (d : KX) := nilckV a.c0.c3 fun g => fadV 5 g fun i => ld1 i b fun j => neqW j (wI 0) fun m => guardF m b (fun n => n a.c0.c3 b) fun o p => guardF m p (fun q => q c p) fun r s => guardF m s (fun t => cf 259 (vc o (vc r V.nil)) s fun u v => t u v) fun w y => guardF m y (fun a0 => notV w fun b0 => a0 b0 y) fun c0 d0 => pickV m (V.t true) c0 fun g0 => cf 204 (vc a.c0.c3 (vc g0 (vc (wI 2) V.nil))) d0 fun i0 j0 => d X.n a j0
def F202_18 : M := fun a b c => iadV 1 a.c1.c5 a.c1.c3 fun d => ld1 d b fun g => F202_17 cf a b g c
def F202_19 : M := fun a b c => addW a.c1.c3 (wI 1) fun d => sl11 d a fun g => c X.n g b
def F202_20 : M := fun a b c => lssW a.c1.c3 a.c1.c4 fun d => seqM (F202_16 d) (seqM (blockM 7 (F202_18 cf)) (F202_19)) a b c
def F202_21 : M := fun a b c => sl13 a.c0.c4 a fun d => lenL a.c0.c4 fun g => sl12 g d fun i => sl11 (wI 0) i fun j => blockM 6 (loopM lf (F202_20 cf)) j b c
def F202_22 (a : V) : M := fun b c d => nilckV a fun g => fadV 0 g fun i => ld1 i c fun j => cf 149 (vc j (vc (wI 9) V.nil)) c fun m n => sl4 m b fun o => nilckV a fun p => fadV 0 p fun q => ld1 q n fun r => cf 149 (vc r (vc (wI 2) V.nil)) n fun s t => lenL s fun u => eqlW u (wI 1) fun v => cf 204 (vc a (vc v (vc (wI 5) V.nil))) t fun w y => seqM (F202_4 cf lf m) (seqM (F202_9 cf lf) (seqM (F202_15 cf lf) (F202_21 cf lf))) o y d
def T202 (cf : CallF) (lf : Nat) : V → H → KV → Bool := fun l h k => onCons l fun a b => onNil b ((F202_22 cf lf a) (⟨⟨V.u, V.u, V.u, a, V.u, V.u, V.u, V.u⟩, n8 V.u, n8 V.u, n8 V.u, n8 V.u, n8 V.u, n8 V.u, n8 V.u⟩ : L8) h fun x e h => finK (fun e h k => k (V.x .tup V.nil V.nil)) k x e h)
theorem e202 : FnEq Tryz.prog G LF OF 202 T202 := fun cf lf => by kernel_rfl
theorem c202 : chkF Tryz.prog LF OF 202 = true := by kernel_rfl
def F203_0 (a : V) : M := fun b c d => condV a (d X.n b c) (d (X.x 0) b c)
def F203_1 (a : L8) (b : V) (c : H) (d : V) (g : KX) := cf 204 (vc a.c0.c3 (vc b (vc (wI 6) V.nil))) c fun i j => lda 5 d j fun m => cf 262 (vc a.c0.c3 (vc m V.nil)) j fun n o => resv 0 o fun p q => nilckV a.c0.c3 fun r => fadV 0 r fun s => ld1 s q fun t => fadV 4 d fun u => ld1 u q fun v => cf 151 (vc t (vc v V.nil)) q fun w y => cf 203 (vc a.c0.c3 (vc w (vc a.c0.c4 V.nil))) y fun a0 b0 => g X.n a b0
def F203_2 (a b : V) (c : H) (d : L8) (g : KX) := condV a (lda 5 b c fun i => cf 261 (vc d.c0.c3 (vc i (vc d.c0.c4 V.nil))) c fun j m => g X.n d m) (fadV 2 b fun n => ld1 n c fun o => eqlS o (V.s 0 0) fun p => guardF p c (fun q => fadV 2 b fun r => q r c) fun s t => guardF p t (fun u => ld1 s t fun v => u v t) fun w y => guardF p y (fun a0 => a0 d.c0.c4 y) fun b0 c0 => guardF p c0 (fun d0 => eqlS w b0 fun g0 => d0 g0 c0) fun i0 j0 => pickV p (V.t true) i0 fun m0 => F203_1 cf d m0 j0 b g)
def F203_3 (a : V) : M := fun b c d => nilckV b.c0.c3 fun g => fadV 5 g fun i => ld1 i c fun j => neqW j (wI 0) fun m => condV m (d X.r b c) (fadV 0 a fun n => ld1 n c fun o => eqlW o (wI 4) fun p => condV p (lda 5 a c fun q => cf 260 (vc b.c0.c3 (vc q (vc b.c0.c4 V.nil))) c fun r s => d X.n b s) (fadV 0 a fun t => ld1 t c fun u => eqlW u (wI 7) fun v => F203_2 cf v a c b d))
def F203_4 : M := fun a b c => iadV 1 a.c0.c2 a.c0.c0 fun d => ld1 d b fun g => nilckV a.c0.c3 fun i => fadV 0 i fun j => ld1 j b fun m => iadV 5 m g fun n => lda 5 n b fun o => resv 1 b fun p q => newA p false 5 107 (V.x .agg (vc (wI 0) (vc (V.s 0 0) (vc (V.s 0 0) (vc (wI 0) (vc vN V.nil))))) V.nil) q fun r s => st false 5 r o s fun t u => blockM 2 (F203_3 cf r) a u c
def F203_5 : M := fun a b c => addW a.c0.c0 (wI 1) fun d => sl0 d a fun g => c X.n g b
def F203_6 : M := fun a b c => lssW a.c0.c0 a.c0.c1 fun d => seqM (F203_0 d) (seqM (blockM 1 (F203_4 cf)) (F203_5)) a b c
def F203_7 (a : V) : M := fun b c d => sl2 a b fun g => lenL a fun i => sl1 i g fun j => sl0 (wI 0) j fun m => blockM 0 (loopM lf (F203_6 cf)) m c d
def T203 (cf : CallF) (lf : Nat) : V → H → KV → Bool := fun l h k => onCons l fun a b => onCons b fun c d => onCons d fun g i => onNil i ((F203_7 cf lf c) (⟨⟨V.u, V.u, V.u, a, g, V.u, V.u, V.u⟩, n8 V.u, n8 V.u, n8 V.u, n8 V.u, n8 V.u, n8 V.u, n8 V.u⟩ : L8) h fun x e h => finK (fun e h k => k (V.x .tup V.nil V.nil)) k x e h)
theorem e203 : FnEq Tryz.prog G LF OF 203 T203 := fun cf lf => by kernel_rfl
theorem c203 : chkF Tryz.prog LF OF 203 = true := by kernel_rfl
def F204_0 (a b c : V) : M := fun d g i => nilckV a fun j => fadV 5 j fun m => ld1 m g fun n => eqlW n (wI 0) fun o => guardT o g (fun p => p b g) fun q r => guardT o r (fun s => notV q fun t => s t r) fun u v => pickV o u (V.t false) fun w => condV w (nilckV a fun y => fadV 5 y fun a0 => st true 1 a0 c v fun b0 c0 => i X.n d c0) (i X.n d v)
def F204_1 : M := fun a b c => nilckV a.c0.c1 fun d => fadV 5 d fun g => ld1 g b fun i => eqlW i (wI 0) fun j => sl0 j a fun m => c X.r m b
def F204_2 (a b c : V) : M := fun d g i => sl0 (V.t false) d fun j => seqM (F204_0 a b c) (F204_1) j g i
def T204 (cf : CallF) (lf : Nat) : V → H → KV → Bool := fun l h k => onCons l fun a b => onCons b fun c d => onCons d fun g i => onNil i ((F204_2 a c g) (⟨⟨V.u, a, V.u, V.u, V.u, V.u, V.u, V.u⟩, n8 V.u, n8 V.u, n8 V.u, n8 V.u, n8 V.u, n8 V.u, n8 V.u⟩ : L8) h fun x e h => finK (fun e h k => k e.c0.c0) k x e h)
theorem e204 : FnEq Tryz.prog G LF OF 204 T204 := fun cf lf => by kernel_rfl
theorem c204 : chkF Tryz.prog LF OF 204 = true := by kernel_rfl
def F205_0 (a : V) : M := fun b c d => condV a (d X.n b c) (d (X.x 0) b c)
def F205_1 (a : L8) (b : V) : M := fun c d g => ssli 5 none (some a.c0.c1) c.c0.c4 fun i => cf 263 (vc i (vc (V.x (.func 264) V.nil (vc b V.nil)) V.nil)) d fun j m => condV j (sl0 (wI 5) c fun n => g X.r n m) (g X.n c m)
def F205_2 : M := fun a b c => fadV 2 a.c0.c5 fun d => ld1 d b fun g => cf 207 (vc g V.nil) b fun i j => eqN nilS idB i vN fun m => condV m (sl0 (wI 6) a fun n => c X.r n j) (c X.n a j)
def F205_3 : M := fun a b c => iadV 5 a.c0.c3 a.c0.c1 fun d => lda 5 d b fun g => resv 1 b fun i j => newA i false 5 107 (V.x .agg (vc (wI 0) (vc (V.s 0 0) (vc (V.s 0 0) (vc (wI 0) (vc vN V.nil))))) V.nil) j fun m n => sl5 m a fun o => st false 5 m g n fun p q => seqM (F205_1 cf a m) (F205_2 cf) o q c
def F205_4 : M := fun a b c => addW a.c0.c1 (wI 1) fun d => sl1 d a fun g => c X.n g b
def F205_5 : M := fun a b c => lssW a.c0.c1 a.c0.c2 fun d => seqM (F205_0 d) (seqM (blockM 1 (F205_3 cf)) (F205_4)) a b c
def F205_6 (a : V) : M := fun b c d => sl3 a b fun g => lenL a fun i => sl2 i g fun j => sl1 (wI 0) j fun m => blockM 0 (loopM lf (F205_5 cf)) m c d
def F205_7 : M := fun a b c => lenL a.c0.c4 fun d => gtrW d (wI 6) fun g => condV g (sl0 (wI 2) a fun i => c X.r i b) (c X.n a b)
def F205_8 : M := fun a b c => sl0 (wI 0) a fun d => c X.r d b
def F205_9 (a : V) : M := fun b c d => sl0 (wI 0) b fun g => seqM (F205_6 cf lf a) (seqM (F205_7) (F205_8)) g c d
def T205 (cf : CallF) (lf : Nat) : V → H → KV → Bool := fun l h k => onCons l fun a b => onNil b ((F205_9 cf lf a) (⟨⟨V.u, V.u, V.u, V.u, a, V.u, V.u, V.u⟩, n8 V.u, n8 V.u, n8 V.u, n8 V.u, n8 V.u, n8 V.u, n8 V.u⟩ : L8) h fun x e h => finK (fun e h k => k e.c0.c0) k x e h)
theorem e205 : FnEq Tryz.prog G LF OF 205 T205 := fun cf lf => by kernel_rfl
theorem c205 : chkF Tryz.prog LF OF 205 = true := by kernel_rfl
def F206_0 (a b : V) : M := fun c d g => sl0 (V.t false) c fun i => cf 265 (vc a (vc b V.nil)) d fun j m => geqV j (wI 0) fun n => sl0 n i fun o => g X.r o m
def T206 (cf : CallF) (lf : Nat) : V → H → KV → Bool := fun l h k => onCons l fun a b => onCons b fun c d => onNil d ((F206_0 cf a c) (⟨n8 V.u, n8 V.u, n8 V.u, n8 V.u, n8 V.u, n8 V.u, n8 V.u, n8 V.u⟩ : L8) h fun x e h => finK (fun e h k => k e.c0.c0) k x e h)
theorem e206 : FnEq Tryz.prog G LF OF 206 T206 := fun cf lf => by kernel_rfl
theorem c206 : chkF Tryz.prog LF OF 206 = true := by kernel_rfl
def F207_0 (a : V) (b : H) (c : L8) (d : KX) (g : V) := condV a (resv 1 b fun i j => part 0 true 1 (wI 5) (vc (wI 0) V.nil) fun m => bslA i 1 1 3 m j fun n o => sl0 n c fun p => d X.r p o) (eqlS g (V.s 7 31069335677005634) fun q => condV q (resv 1 b fun r s => part 0 true 1 (wI 2) (vc (wI 0) (vc (wI 0) V.nil)) fun t => part 1 true 1 (wI 3) t fun u => bslA r 2 1 3 u s fun v w => sl0 v c fun y => d X.r y w) (d X.n c b))
def F207_1 (a : V) : M := fun b c d => eqlS a (V.s 3 7630409) fun g => condV g (resv 1 c fun i j => part 0 true 1 (wI 4) (vc (wI 0) V.nil) fun m => bslA i 1 1 3 m j fun n o => sl0 n b fun p => d X.r p o) (eqlS a (V.s 6 113723913172051) fun q => F207_0 q c b d a)
def F207_2 (a : V) : M := fun b c d => blockM 0 (F207_1 a) b c d
def F207_3 : M := fun a b c => sl0 vN a fun d => c X.r d b
def F207_4 (a : V) : M := fun b c d => sl0 vN b fun g => seqM (F207_2 a) (F207_3) g c d
def T207 (cf : CallF) (lf : Nat) : V → H → KV → Bool := fun l h k => onCons l fun a b => onNil b ((F207_4 a) (⟨n8 V.u, n8 V.u, n8 V.u, n8 V.u, n8 V.u, n8 V.u, n8 V.u, n8 V.u⟩ : L8) h fun x e h => finK (fun e h k => k e.c0.c0) k x e h)
theorem e207 : FnEq Tryz.prog G LF OF 207 T207 := fun cf lf => by kernel_rfl
theorem c207 : chkF Tryz.prog LF OF 207 = true := by kernel_rfl
def F208_0 (a : V) : M := fun b c d => cf 266 (vc a (vc (V.x (.func 267) V.nil V.nil) V.nil)) c fun g i => d X.n b i
def T208 (cf : CallF) (lf : Nat) : V → H → KV → Bool := fun l h k => onCons l fun a b => onNil b ((F208_0 cf a) (⟨n8 V.u, n8 V.u, n8 V.u, n8 V.u, n8 V.u, n8 V.u, n8 V.u, n8 V.u⟩ : L8) h fun x e h => finK (fun e h k => k (V.x .tup V.nil V.nil)) k x e h)
theorem e208 : FnEq Tryz.prog G LF OF 208 T208 := fun cf lf => by kernel_rfl
theorem c208 : chkF Tryz.prog LF OF 208 = true := by kernel_rfl
def F209_0 (a : V) (b : H) (c : L8) (d : KX) := fadV 0 a fun g => ld1 g b fun i => eqlW i (wI 4) fun j => guardF j b (fun m => fadV 0 a fun n => m n b) fun o p => guardF j p (fun q => ld1 o p fun r => q r p) fun s t => guardF j t (fun u => eqlW s (wI 7) fun v => u v t) fun w y => pickV j (V.t true) w fun a0 => guardF a0 y (fun b0 => fadV 0 a fun c0 => b0 c0 y) fun d0 g0 => guardF a0 g0 (fun i0 => ld1 d0 g0 fun j0 => i0 j0 g0) fun m0 n0 => guardF a0 n0 (fun o0 => eqlW m0 (wI 8) fun p0 => o0 p0 n0) fun q0 r0 => pickV a0 (V.t true) q0 fun s0 => sl0 s0 c fun t0 => d X.r t0 r0
def F209_1 (a : V) : M := fun b c d => resv 1 c fun g i => newA g false 5 107 a i fun j m => sl0 (V.t false) b fun n => F209_0 j m n d
def T209 (cf : CallF) (lf : Nat) : V → H → KV → Bool := fun l h k => onCons l fun a b => onNil b ((F209_1 a) (⟨n8 V.u, n8 V.u, n8 V.u, n8 V.u, n8 V.u, n8 V.u, n8 V.u, n8 V.u⟩ : L8) h fun x e h => finK (fun e h k => k e.c0.c0) k x e h)
theorem e209 : FnEq Tryz.prog G LF OF 209 T209 := fun cf lf => by kernel_rfl
theorem c209 : chkF Tryz.prog LF OF 209 = true := by kernel_rfl
def F210_0 (a : V) : M := fun b c d => condV a (d X.n b c) (d (X.x 0) b c)
def F210_1 : M := fun a b c => iadV 4 a.c0.c4 a.c0.c1 fun d => lda 4 d b fun g => callV cf a.c0.c3 (vc g V.nil) b fun i j => condV i (sl0 a.c0.c1 a fun m => c X.r m j) (c X.n a j)
def F210_2 : M := fun a b c => addW a.c0.c1 (wI 1) fun d => sl1 d a fun g => c X.n g b
def F210_3 : M := fun a b c => lssW a.c0.c1 a.c0.c2 fun d => seqM (F210_0 d) (seqM (blockM 1 (F210_1 cf)) (F210_2)) a b c
def F210_4 (a : V) : M := fun b c d => lenL a fun g => sl2 g b fun i => sl1 (wI 0) i fun j => blockM 0 (loopM lf (F210_3 cf)) j c d
def F210_5 : M := fun a b c => sl0 (V.w 9223372036854775807) a fun d => c X.r d b
def F210_6 (a : V) : M := fun b c d => sl0 (wI 0) b fun g => seqM (F210_4 cf lf a) (F210_5) g c d
def T210 (cf : CallF) (lf : Nat) : V → H → KV → Bool := fun l h k => onCons l fun a b => onCons b fun c d => onNil d ((F210_6 cf lf a) (⟨⟨V.u, V.u, V.u, c, a, V.u, V.u, V.u⟩, n8 V.u, n8 V.u, n8 V.u, n8 V.u, n8 V.u, n8 V.u, n8 V.u⟩ : L8) h fun x e h => finK (fun e h k => k e.c0.c0) k x e h)
theorem e210 : FnEq Tryz.prog G LF OF 210 T210 := fun cf lf => by kernel_rfl
theorem c210 : chkF Tryz.prog LF OF 210 = true := by kernel_rfl
def F211_0 (a b : V) : M := fun c d g => resv 1 d fun i j => newA i false 4 85 a j fun m n => sl0 (V.t false) c fun o => fadV 0 m fun p => ld1 p n fun q => ld1 b n fun r => eqlS q r fun s => sl0 s o fun t => g X.r t n
def T211 (cf : CallF) (lf : Nat) : V → H → KV → Bool := fun l h k => onCons l fun a b => onCons b fun c d => onNil d ((F211_0 a c) (⟨n8 V.u, n8 V.u, n8 V.u, n8 V.u, n8 V.u, n8 V.u, n8 V.u, n8 V.u⟩ : L8) h fun x e h => finK (fun e h k => k e.c0.c0) k x e h)
theorem e211 : FnEq Tryz.prog G LF OF 211 T211 := fun cf lf => by kernel_rfl
theorem c211 : chkF Tryz.prog LF OF 211 = true := by kernel_rfl
def F215_0 (a : V) : M := fun b c d => eqlS a (V.s 4 1634165107) fun g => condV g (sl0 (V.s 4 1634165075) b fun i => d X.r i c) (eqlS a (V.s 5 495555404147) fun j => condV j (sl0 (V.s 5 495555404115) b fun m => d X.r m c) (eqlS a (V.s 6 125779851896172) fun n => condV n (sl0 (V.s 7 32481125887929925) b fun o => d X.r o c) (eqlS a (V.s 4 1701669236) fun p => condV p (sl0 (V.s 3 7630409) b fun q => d X.r q c) (d X.n b c))))
def F215_1 (a : V) : M := fun b c d => eqlS a (V.s 2 25705) fun g => sl1 g b fun i => condV g (d X.n i c) (eqlS a (V.s 4 1885697139) fun j => sl1 j i fun m => condV j (d X.n m c) (eqlS a (V.s 5 495806936179) fun n => sl1 n m fun o => d X.n o c))
def F215_2 : M := fun a b c => condV a.c0.c1 (sl0 (V.s 3 7630409) a fun d => c X.r d b) (eqlS a.c0.c2 (V.s 6 126948300911731) fun g => condV g (sl0 (V.s 6 113723913172051) a fun i => c X.r i b) (c X.n a b))
def F215_3 (a : V) : M := fun b c d => eqlS a (V.s 3 7955819) fun g => sl3 g b fun i => condV g (d X.n i c) (eqlS a (V.s 1 110) fun j => sl3 j i fun m => d X.n m c)
def F215_4 : M := fun a b c => eqlS a.c0.c4 (V.s 2 28783) fun d => sl5 d a fun g => condV d (c X.n g b) (eqlS g.c0.c4 (V.s 3 7301239) fun i => sl5 i g fun j => c X.n j b)
def F215_5 : M := fun a b c => condV a.c0.c5 (sl0 (V.s 6 113723913172051) a fun d => c X.r d b) (eqlS a.c0.c4 (V.s 4 1801675106) fun g => condV g (sl0 (V.s 7 31069335677005634) a fun i => c X.r i b) (c X.n a b))
def F215_6 : M := fun a b c => condV a.c0.c3 (sl0 (V.s 3 7630409) a fun d => c X.r d b) (seqM (F215_4) (F215_5) a b c)
def F215_7 (a b : V) (c : L8) (d : H) (g : KX) := eqlS a (V.s 5 521611275845) fun i => condV i (sl4 b c fun j => blockM 3 (seqM (F215_3 b) (F215_6)) j d g) (eqlS a (V.s 4 1885697107) fun m => condV m (eqlS b (V.s 6 126948300911731) fun n => guardF n d (fun o => o b d) fun p q => guardF n q (fun r => eqlS p (V.s 7 28538277257700723) fun s => r s q) fun t u => pickV n (V.t true) t fun v => condV v (sl0 (V.s 6 113723913172051) c fun w => g X.r w u) (g X.n c u)) (g X.n c d))
def F215_8 (a b c : V) : M := fun d g i => eqlS a (V.s 5 521610294609) fun j => condV j (blockM 1 (F215_0 b) d g i) (eqlS a (V.s 8 7957695015159100749) fun m => condV m (cf 47 (vc c (vc b V.nil)) g fun n o => geqV n (wI 0) fun p => condV p (sl0 (V.s 4 1885697107) d fun q => i X.r q o) (i X.n d o)) (eqlS a (V.s 4 1634165075) fun r => condV r (sl2 b d fun s => blockM 2 (seqM (F215_1 b) (F215_2)) s g i) (F215_7 a b d g i)))
def F215_9 (a b c : V) : M := fun d g i => blockM 0 (F215_8 cf a b c) d g i
def F215_10 : M := fun a b c => sl0 (V.s 0 0) a fun d => c X.r d b
def F215_11 (a b c : V) : M := fun d g i => sl0 (V.s 0 0) d fun j => seqM (F215_9 cf a b c) (F215_10) j g i
def T215 (cf : CallF) (lf : Nat) : V → H → KV → Bool := fun l h k => onCons l fun a b => onCons b fun c d => onCons d fun g i => onNil i ((F215_11 cf a c g) (⟨n8 V.u, n8 V.u, n8 V.u, n8 V.u, n8 V.u, n8 V.u, n8 V.u, n8 V.u⟩ : L8) h fun x e h => finK (fun e h k => k e.c0.c0) k x e h)
theorem e215 : FnEq Tryz.prog G LF OF 215 T215 := fun cf lf => by kernel_rfl
theorem c215 : chkF Tryz.prog LF OF 215 = true := by kernel_rfl
def F216_0 (a : V) (b : H) (c : V) (d : L8) (g : KX) := eqlS a (V.s 5 521610294609) fun i => guardT i b (fun j => j c b) fun m n => guardT i n (fun o => eqlS m (V.s 6 125779851896172) fun p => o p n) fun q r => pickV i q (V.t false) fun s => condV s (resv 1 r fun t u => part 0 true 1 (V.s 7 28538277257700723) (vc (V.s 0 0) V.nil) fun v => bslA t 1 1 9 v u fun w y => resv 1 y fun a0 b0 => part 0 true 1 (V.s 6 113723913172051) (vc (V.s 0 0) V.nil) fun c0 => bslA a0 1 1 9 c0 b0 fun d0 g0 => sl0 w d fun i0 => sl1 d0 i0 fun j0 => g X.r j0 g0) (g X.n d r)
def F216_1 (a : V) (b : H) (c : V) (d : L8) (g : KX) := eqlS a (V.s 5 521610294609) fun i => guardT i b (fun j => j c b) fun m n => guardT i n (fun o => eqlS m (V.s 4 1634165107) fun p => o p n) fun q r => pickV i q (V.t false) fun s => condV s (resv 1 r fun t u => part 0 true 1 (V.s 2 25705) (vc (V.s 0 0) V.nil) fun v => bslA t 1 1 9 v u fun w y => resv 1 y fun a0 b0 => part 0 true 1 (V.s 3 7630409) (vc (V.s 0 0) V.nil) fun c0 => bslA a0 1 1 9 c0 b0 fun d0 g0 => sl0 w d fun i0 => sl1 d0 i0 fun j0 => g X.r j0 g0) (F216_0 a r c d g)
def F216_2 (a : V) (b : H) (c : L8) (d : KX) (g i : V) := condV a (resv 1 b fun j m => part 0 true 1 (V.s 3 7301239) (vc (V.s 0 0) (vc (V.s 0 0) V.nil)) fun n => part 1 true 1 (V.s 1 110) n fun o => bslA j 2 1 9 o m fun p q => resv 1 q fun r s => part 0 true 1 (V.s 6 113723913172051) (vc (V.s 0 0) (vc (V.s 0 0) V.nil)) fun t => part 1 true 1 (V.s 3 7630409) t fun u => bslA r 2 1 9 u s fun v w => sl0 p c fun y => sl1 v y fun a0 => d X.r a0 w) (F216_1 g b i c d)
def F216_3 (a b : V) : M := fun c d g => eqlS a (V.s 8 7957695015159100749) fun i => F216_2 i d c g a b
def F216_4 : M := fun a b c => sl0 vN a fun d => sl1 vN d fun g => c X.r g b
def F216_5 (a b : V) : M := fun c d g => sl0 vN c fun i => sl1 vN i fun j => seqM (blockM 0 (F216_3 a b)) (F216_4) j d g
def T216 (cf : CallF) (lf : Nat) : V → H → KV → Bool := fun l h k => onCons l fun a b => onCons b fun c d => onNil d ((F216_5 a c) (⟨n8 V.u, n8 V.u, n8 V.u, n8 V.u, n8 V.u, n8 V.u, n8 V.u, n8 V.u⟩ : L8) h fun x e h => finK (fun e h k => k (V.x .tup (vc e.c0.c0 (vc e.c0.c1 V.nil)) V.nil)) k x e h)
theorem e216 : FnEq Tryz.prog G LF OF 216 T216 := fun cf lf => by kernel_rfl
theorem c216 : chkF Tryz.prog LF OF 216 = true := by kernel_rfl
def F217_0 (a b : V) : M := fun c d g => sl0 vN c fun i => resv 1 d fun j m => part 0 true 1 (wI 5) (vc (wI 0) V.nil) fun n => bslA j 1 1 3 n m fun o p => cf 100 (vc a (vc b (vc o V.nil))) p fun q r => sl0 q i fun s => g X.r s r
def T217 (cf : CallF) (lf : Nat) : V → H → KV → Bool := fun l h k => onCons l fun a b => onCons b fun c d => onNil d ((F217_0 cf a c) (⟨n8 V.u, n8 V.u, n8 V.u, n8 V.u, n8 V.u, n8 V.u, n8 V.u, n8 V.u⟩ : L8) h fun x e h => finK (fun e h k => k e.c0.c0) k x e h)
theorem e217 : FnEq Tryz.prog G LF OF 217 T217 := fun cf lf => by kernel_rfl
theorem c217 : chkF Tryz.prog LF OF 217 = true := by kernel_rfl
def F218_0 (a b c : V) : M := fun d g i => fadV 0 a fun j => ld1 j g fun m => neqW m (wI 14) fun n => condV n (fadV 0 a fun o => ld1 o g fun p => eqlW p b fun q => cf 97 (vc c (vc q (vc (wI 6) V.nil))) g fun r s => i X.r d s) (i X.n d g)
def F218_1 : M := fun a b c => lenL a.c0.c2 fun d => lssW a.c0.c1 d fun g => condV g (c X.n a b) (c (X.x 0) a b)
def F218_2 (a b : V) (c : H) (d : V) (g : L8) (i : KX) := fadV 4 a fun j => st true 1 j b c fun m n => fadV 2 d fun o => ld1 o n fun p => eqlS p g.c0.c4 fun q => guardT q n (fun r => fadV 3 d fun s => r s n) fun t u => guardT q u (fun v => ld1 t u fun w => v w u) fun y a0 => guardT q a0 (fun b0 => eqlW y (wI 1) fun c0 => b0 c0 a0) fun d0 g0 => pickV q d0 (V.t false) fun i0 => cf 97 (vc g.c0.c0 (vc i0 (vc (wI 6) V.nil))) g0 fun j0 m0 => i X.r g m0
def F218_3 (a : V) (b : H) (c : L8) (d : KX) := fadV 1 a fun g => ld1 g b fun i => fadV 1 c.c0.c3 fun j => ld1 j b fun m => eqlS i m fun n => condV n (resv 1 b fun o p => nilckV c.c0.c0 fun q => fadV 4 q fun r => ld1 r p fun s => fadV 1 c.c0.c3 fun t => ld1 t p fun u => part 0 true 1 u (vc (V.s 0 0) V.nil) fun v => bslA (Nat.add o 0) 1 1 9 v p fun w y => app 1 9 s w y fun a0 b0 => nilckV c.c0.c0 fun c0 => F218_2 cf c0 a0 b0 a c d) (d X.n c b)
def F218_4 : M := fun a b c => resv 1 b fun d g => nilckV a.c0.c0 fun i => fadV 0 i fun j => ld1 j g fun m => iadV 1 a.c0.c2 a.c0.c1 fun n => ld1 n g fun o => iadV 5 m o fun p => lda 5 p g fun q => newA (Nat.add d 0) false 5 107 (V.x .agg (vc (wI 0) (vc (V.s 0 0) (vc (V.s 0 0) (vc (wI 0) (vc vN V.nil))))) V.nil) g fun r s => st false 5 r q s fun t u => F218_3 cf r u a c
def F218_5 : M := fun a b c => addW a.c0.c1 (wI 1) fun d => sl1 d a fun g => c X.n g b
def F218_6 : M := fun a b c => sl1 (wI 0) a fun d => blockM 0 (loopM lf (seqM (F218_1) (seqM (blockM 1 (F218_4 cf)) (F218_5)))) d b c
def F218_7 : M := fun a b c => cf 162 (vc a.c0.c0 (vc (wI 5) V.nil)) b fun d g => c X.n a g
def F218_8 : M := fun a b c => resv 0 b fun d g => nilckV a.c0.c0 fun i => fadV 0 i fun j => ld1 j g fun m => nilckV a.c0.c0 fun n => fadV 2 n fun o => ld1 o g fun p => cf 96 (vc m (vc p V.nil)) g fun q r => sl2 q a fun s => seqM (F218_6 cf lf) (F218_7 cf) s r c
def F218_9 (a b c : V) : M := fun d g i => nilckV a fun j => fadV 0 j fun m => ld1 m g fun n => iadV 5 n b fun o => lda 5 o g fun p => resv 1 g fun q r => newA q false 5 107 (V.x .agg (vc (wI 0) (vc (V.s 0 0) (vc (V.s 0 0) (vc (wI 0) (vc vN V.nil))))) V.nil) r fun s t => sl3 s d fun u => st false 5 s p t fun v w => seqM (F218_0 cf s c a) (F218_8 cf lf) u w i
def T218 (cf : CallF) (lf : Nat) : V → H → KV → Bool := fun l h k => onCons l fun a b => onCons b fun c d => onCons d fun g i => onCons i fun j m => onNil m ((F218_9 cf lf a c j) (⟨⟨a, V.u, V.u, V.u, g, V.u, V.u, V.u⟩, n8 V.u, n8 V.u, n8 V.u, n8 V.u, n8 V.u, n8 V.u, n8 V.u⟩ : L8) h fun x e h => finK (fun e h k => k (V.x .tup V.nil V.nil)) k x e h)
theorem e218 : FnEq Tryz.prog G LF OF 218 T218 := fun cf lf => by kernel_rfl
theorem c218 : chkF Tryz.prog LF OF 218 = true := by kernel_rfl
def F219_0 (a : V) : M := fun b c d => eqlS a (V.s 5 495555404115) fun g => condV g (sl0 (V.s 4 1634165075) b fun i => d X.r i c) (eqlS a (V.s 7 32481125887929925) fun j => condV j (sl0 (V.s 5 521611275845) b fun m => d X.r m c) (d X.n b c))
def F219_1 (a : V) : M := fun b c d => blockM 0 (F219_0 a) b c d
def F219_2 : M := fun a b c => sl0 a.c0.c1 a fun d => c X.r d b
def F219_3 (a : V) : M := fun b c d => sl0 (V.s 0 0) b fun g => seqM (F219_1 a) (F219_2) g c d
def T219 (cf : CallF) (lf : Nat) : V → H → KV → Bool := fun l h k => onCons l fun a b => onNil b ((F219_3 a) (⟨⟨V.u, a, V.u, V.u, V.u, V.u, V.u, V.u⟩, n8 V.u, n8 V.u, n8 V.u, n8 V.u, n8 V.u, n8 V.u, n8 V.u⟩ : L8) h fun x e h => finK (fun e h k => k e.c0.c0) k x e h)
theorem e219 : FnEq Tryz.prog G LF OF 219 T219 := fun cf lf => by kernel_rfl
theorem c219 : chkF Tryz.prog LF OF 219 = true := by kernel_rfl
def F220_0 (a b : V) : M := fun c d g => sl0 vN c fun i => resv 1 d fun j m => part 0 true 1 (wI 6) (vc (wI 0) V.nil) fun n => bslA j 1 1 3 n m fun o p => cf 100 (vc a (vc b (vc o V.nil))) p fun q r => sl0 q i fun s => g X.r s r
def T220 (cf : CallF) (lf : Nat) : V → H → KV → Bool := fun l h k => onCons l fun a b => onCons b fun c d => onNil d ((F220_0 cf a c) (⟨n8 V.u, n8 V.u, n8 V.u, n8 V.u, n8 V.u, n8 V.u, n8 V.u, n8 V.u⟩ : L8) h fun x e h => finK (fun e h k => k e.c0.c0) k x e h)
theorem e220 : FnEq Tryz.prog G LF OF 220 T220 := fun cf lf => by kernel_rfl
theorem c220 : chkF Tryz.prog LF OF 220 = true := by kernel_rfl
def F221_0 (a b : V) (c : H) (d g : V) (i : KX) (j : L8) (m : V) := condV a (fadV 3 b fun n => ld1 n c fun o => addW (wI 2) o fun p => part 0 true 1 d (vc (V.s 0 0) (vc (wI 0) (vc (wI 0) (vc (V.s 0 0) V.nil)))) fun q => part 1 true 1 p q fun r => st false 4 g (V.x .agg r V.nil) c fun s t => i X.r j t) (eqlW m (wI 13) fun u => condV u (part 0 true 1 d (vc (V.s 0 0) (vc (wI 0) (vc (wI 0) (vc (V.s 0 0) V.nil)))) fun v => part 1 true 1 (wI 1) v fun w => st false 4 g (V.x .agg w V.nil) c fun y a0 => i X.r j a0) (i X.n j c))
def F221_1 (a b : V) (c : H) (d g : V) (i : KX) (j : L8) := eqlW a (wI 11) fun m => condV m (fadV 1 b fun n => ld1 n c fun o => part 0 true 1 d (vc (V.s 0 0) (vc (wI 0) (vc (wI 0) (vc (V.s 0 0) V.nil)))) fun p => part 1 true 1 (wI 5) p fun q => part 3 true 1 o q fun r => st false 4 g (V.x .agg r V.nil) c fun s t => i X.r j t) (eqlW a (wI 12) fun u => F221_0 u b c d g i j a)
def F221_2 (a b c d : V) : M := fun g i j => eqlW a (wI 10) fun m => condV m (fadV 3 b fun n => ld1 n i fun o => part 0 true 1 c (vc (V.s 0 0) (vc (wI 0) (vc (wI 0) (vc (V.s 0 0) V.nil)))) fun p => part 1 true 1 (wI 4) p fun q => part 2 true 1 o q fun r => st false 4 d (V.x .agg r V.nil) i fun s t => j X.r g t) (F221_1 a b i c d j g)
def F221_3 (a b c : V) : M := fun d g i => fadV 0 a fun j => ld1 j g fun m => blockM 0 (F221_2 m a b c) d g i
def F221_4 (a : V) : M := fun b c d => lssW a (wI 0) fun g => condV g (cf 170 (vc b.c0.c1 (vc (wI 5) V.nil)) c fun i j => st false 4 b.c0.c0 (V.x .agg (vc (V.s 0 0) (vc (wI 0) (vc (wI 0) (vc (V.s 0 0) V.nil)))) V.nil) j fun m n => d X.r b n) (d X.n b c)
def F221_5 : M := fun a b c => nilckV a.c0.c1 fun d => fadV 1 d fun g => ld1 g b fun i => iadV 4 i a.c0.c3 fun j => lda 4 j b fun m => resv 1 b fun n o => newA n false 4 85 (V.x .agg (vc (V.s 0 0) (vc (wI 0) (vc (wI 0) (vc (V.s 0 0) V.nil)))) V.nil) o fun p q => st false 4 p m q fun r s => fadV 0 p fun t => st true 1 t a.c0.c4 s fun u v => lda 4 p v fun w => st false 4 a.c0.c0 w v fun y a0 => c X.r a a0
def F221_6 : M := fun a b c => resv 0 b fun d g => nilckV a.c0.c1 fun i => fadV 1 i fun j => ld1 j g fun m => fadV 1 a.c0.c2 fun n => ld1 n g fun o => cf 48 (vc m (vc o V.nil)) g fun p q => sl3 p a fun r => seqM (F221_4 cf p) (F221_5) r q c
def F221_7 (a b c : V) : M := fun d g i => resv 1 g fun j m => newA j false 4 85 (V.x .agg (vc (V.s 0 0) (vc (wI 0) (vc (wI 0) (vc (V.s 0 0) V.nil)))) V.nil) m fun n o => sl0 n d fun p => nilckV a fun q => fadV 0 q fun r => ld1 r o fun s => iadV 5 s b fun t => lda 5 t o fun u => resv 1 o fun v w => newA v false 5 107 (V.x .agg (vc (wI 0) (vc (V.s 0 0) (vc (V.s 0 0) (vc (wI 0) (vc vN V.nil))))) V.nil) w fun y a0 => sl2 y p fun b0 => st false 5 y u a0 fun c0 d0 => seqM (F221_3 y c n) (F221_6 cf) b0 d0 i
def T221 (cf : CallF) (lf : Nat) : V → H → KV → Bool := fun l h k => onCons l fun a b => onCons b fun c d => onCons d fun g i => onNil i ((F221_7 cf a g c) (⟨⟨V.u, a, V.u, V.u, c, V.u, V.u, V.u⟩, n8 V.u, n8 V.u, n8 V.u, n8 V.u, n8 V.u, n8 V.u, n8 V.u⟩ : L8) h fun x e h => finK (fun e h k => lda 4 e.c0.c0 h k) k x e h)
theorem e221 : FnEq Tryz.prog G LF OF 221 T221 := fun cf lf => by kernel_rfl
theorem c221 : chkF Tryz.prog LF OF 221 = true := by kernel_rfl
def F222_0 (a b : V) : M := fun c d g => lenL a fun i => lenL b fun j => neqW i j fun m => condV m (sl0 (V.t false) c fun n => g X.r n d) (g X.n c d)
def F222_1 : M := fun a b c => lenL a.c0.c2 fun d => lssW a.c0.c1 d fun g => condV g (c X.n a b) (c (X.x 0) a b)
def F222_2 : M := fun a b c => resv 0 b fun d g => iadV 4 a.c0.c2 a.c0.c1 fun i => lda 4 i g fun j => iadV 4 a.c0.c3 a.c0.c1 fun m => lda 4 m g fun n => eqAg [1, 0, 0, 1] nots j n fun o => condV o (sl0 (V.t false) a fun p => c X.r p g) (c X.n a g)
def F222_3 : M := fun a b c => addW a.c0.c1 (wI 1) fun d => sl1 d a fun g => c X.n g b
def F222_4 : M := fun a b c => sl1 (wI 0) a fun d => blockM 0 (loopM lf (seqM (F222_1) (seqM (blockM 1 (F222_2)) (F222_3)))) d b c
def F222_5 : M := fun a b c => sl0 (V.t true) a fun d => c X.r d b
def F222_6 (a b : V) : M := fun c d g => sl0 (V.t false) c fun i => seqM (F222_0 a b) (seqM (F222_4 lf) (F222_5)) i d g
def T222 (cf : CallF) (lf : Nat) : V → H → KV → Bool := fun l h k => onCons l fun a b => onCons b fun c d => onNil d ((F222_6 lf a c) (⟨⟨V.u, V.u, a, c, V.u, V.u, V.u, V.u⟩, n8 V.u, n8 V.u, n8 V.u, n8 V.u, n8 V.u, n8 V.u, n8 V.u⟩ : L8) h fun x e h => finK (fun e h k => k e.c0.c0) k x e h)
theorem e222 : FnEq Tryz.prog G LF OF 222 T222 := fun cf lf => by kernel_rfl
theorem c222 : chkF Tryz.prog LF OF 222 = true := by kernel_rfl
def F223_0 (a b : V) : M := fun c d g => sl0 (V.t false) c fun i => lenS a fun j => leqW j b fun m => guardT m d (fun n => n a d) fun o p => guardT m p (fun q => q (V.x (.func 271) V.nil V.nil) p) fun r s => guardT m s (fun t => cf 272 (vc o (vc r V.nil)) s fun u v => t u v) fun w y => guardT m y (fun a0 => notV w fun b0 => a0 b0 y) fun c0 d0 => pickV m c0 (V.t false) fun g0 => sl0 g0 i fun i0 => g X.r i0 d0
def T223 (cf : CallF) (lf : Nat) : V → H → KV → Bool := fun l h k => onCons l fun a b => onCons b fun c d => onNil d ((F223_0 cf a c) (⟨n8 V.u, n8 V.u, n8 V.u, n8 V.u, n8 V.u, n8 V.u, n8 V.u, n8 V.u⟩ : L8) h fun x e h => finK (fun e h k => k e.c0.c0) k x e h)
theorem e223 : FnEq Tryz.prog G LF OF 223 T223 := fun cf lf => by kernel_rfl
theorem c223 : chkF Tryz.prog LF OF 223 = true := by kernel_rfl
def F226_0 (a : V) : M := fun b c d => condV a (d X.n b c) (d (X.x 0) b c)
def F226_1 (a : H) (b : V) (c : L8) (d : KX) := resv 0 a fun g i => fadV 0 b fun j => ld1 j i fun m => eqlW m (wI 6) fun n => guardT n i (fun o => lda 5 b i fun p => o p i) fun q r => guardT n r (fun s => fadV 1 b fun t => s t r) fun u v => guardT n v (fun w => ld1 u v fun y => w y v) fun a0 b0 => guardT n b0 (fun c0 => c0 c.c0.c4 b0) fun d0 g0 => guardT n g0 (fun i0 => eqlS a0 (V.s 4 1885956979) fun j0 => i0 j0 g0) fun m0 n0 => guardT n n0 (fun o0 => cf 274 (vc d0 (vc q V.nil)) n0 fun p0 q0 => o0 p0 q0) fun r0 s0 => guardT n s0 (fun t0 => ld1 u s0 fun u0 => t0 u0 s0) fun v0 w0 => both (eqV v0 a0) (guardT n s0 (fun y0 => eqT idB r0 m0 fun a1 => y0 a1 s0) fun b1 c1 => pickV n b1 (V.t false) fun d1 => condV d1 (sl5 (V.t false) c fun g1 => d X.n g1 c1) (d X.n c c1))
def F226_2 : M := fun a b c => iadV 1 a.c0.c3 a.c0.c1 fun d => ld1 d b fun g => nilckV a.c0.c4 fun i => fadV 0 i fun j => ld1 j b fun m => iadV 5 m g fun n => lda 5 n b fun o => resv 1 b fun p q => newA p false 5 107 (V.x .agg (vc (wI 0) (vc (V.s 0 0) (vc (V.s 0 0) (vc (wI 0) (vc vN V.nil))))) V.nil) q fun r s => st false 5 r o s fun t u => F226_1 cf u r a c
def F226_3 : M := fun a b c => addW a.c0.c1 (wI 1) fun d => sl1 d a fun g => c X.n g b
def F226_4 : M := fun a b c => lssW a.c0.c1 a.c0.c2 fun d => seqM (F226_0 d) (seqM (blockM 1 (F226_2 cf)) (F226_3)) a b c
def F226_5 (a : V) : M := fun b c d => fadV 4 a fun g => ld1 g c fun i => sl3 i b fun j => lenL i fun m => sl2 m j fun n => sl1 (wI 0) n fun o => blockM 0 (loopM lf (F226_4 cf)) o c d
def F226_6 : M := fun a b c => guardT a.c0.c5 b (fun d => d a.c0.c4 b) fun g i => guardT a.c0.c5 i (fun j => nilckV g fun m => j m i) fun n o => guardT a.c0.c5 o (fun p => fadV 5 n fun q => p q o) fun r s => guardT a.c0.c5 s (fun t => ld1 r s fun u => t u s) fun v w => guardT a.c0.c5 w (fun y => eqlW v (wI 0) fun a0 => y a0 w) fun b0 c0 => pickV a.c0.c5 b0 (V.t false) fun d0 => sl0 d0 a fun g0 => c X.r g0 c0
def F226_7 (a : V) : M := fun b c d => resv 1 c fun g i => newA g false 5 107 a i fun j m => sl0 (V.t false) b fun n => sl5 (V.t true) n fun o => seqM (F226_5 cf lf j) (F226_6) o m d
def T226 (cf : CallF) (lf : Nat) : V → H → KV → Bool := fun l h k => onCons l fun a b => onCons b fun c d => onNil d ((F226_7 cf lf c) (⟨⟨V.u, V.u, V.u, V.u, a, V.u, V.u, V.u⟩, n8 V.u, n8 V.u, n8 V.u, n8 V.u, n8 V.u, n8 V.u, n8 V.u⟩ : L8) h fun x e h => finK (fun e h k => k e.c0.c0) k x e h)
theorem e226 : FnEq Tryz.prog G LF OF 226 T226 := fun cf lf => by kernel_rfl
theorem c226 : chkF Tryz.prog LF OF 226 = true := by kernel_rfl
def F227_0 (a b : V) : M := fun c d g => fadV 0 a fun i => ld1 i d fun j => eqlS j (V.s 0 0) fun m => condV m (fadV 1 b fun n => ld1 n d fun o => fadV 0 a fun p => st true 1 p o d fun q r => g X.n c r) (g X.n c d)
def F227_1 : M := fun a b c => nilckV a.c0.c0 fun d => fadV 5 d fun g => ld1 g b fun i => neqW i (wI 0) fun j => condV j (c X.r a b) (c X.n a b)
def F227_2 (a : V) (b : H) (c : L8) (d : KX) := condV a (resv 1 b fun g i => nilckV c.c0.c0 fun j => fadV 4 j fun m => ld1 m i fun n => lda 4 c.c0.c1 i fun o => part 0 false 4 o (vc (V.s 0 0) (vc (V.s 0 0) (vc vN (vc vN V.nil)))) fun p => bslA (Nat.add g 0) 1 4 128 p i fun q r => app 4 128 n q r fun s t => nilckV c.c0.c0 fun u => fadV 4 u fun v => st true 1 v s t fun w y => d X.r c y) (d X.n c b)
def F227_3 (a : V) : M := fun b c d => lssW a (wI 0) fun g => F227_2 g c b d
def F227_4 (a : V) (b : H) (c : V) (d : L8) (g : KX) := guardF a b (fun i => fadV 2 c fun j => i j b) fun m n => guardF a n (fun o => ld1 m n fun p => o p n) fun q r => guardF a r (fun s => fadV 2 d.c0.c1 fun t => s t r) fun u v => guardF a v (fun w => ld1 u v fun y => w y v) fun a0 b0 => guardF a b0 (fun c0 => cf 278 (vc q (vc a0 V.nil)) b0 fun d0 g0 => c0 d0 g0) fun i0 j0 => guardF a j0 (fun m0 => notV i0 fun n0 => m0 n0 j0) fun o0 p0 => pickV a (V.t true) o0 fun q0 => condV q0 (cf 279 (vc d.c0.c0 (vc (wI 6) V.nil)) p0 fun r0 s0 => g X.r d s0) (g X.n d p0)
def F227_5 (a : V) : M := fun b c d => resv 0 c fun g i => nilckV a fun j => fadV 1 j fun m => ld1 m i fun n => fadV 1 b.c0.c1 fun o => ld1 o i fun p => neqS n p fun q => guardF q i (fun r => r a i) fun s t => guardF q t (fun u => nilckV s fun v => u v t) fun w y => F227_4 cf q y w b d
def F227_6 : M := fun a b c => resv 0 b fun d g => nilckV a.c0.c3 fun i => fadV 3 i fun j => ld1 j g fun m => fadV 3 a.c0.c1 fun n => ld1 n g fun o => app 1 3 m o g fun p q => nilckV a.c0.c3 fun r => fadV 3 r fun s => st true 1 s p q fun t u => c X.n a u
def F227_7 : M := fun a b c => nilckV a.c0.c0 fun d => fadV 4 d fun g => ld1 g b fun i => iadV 4 i a.c0.c2 fun j => sl3 j a fun m => seqM (F227_5 cf j) (F227_6) m b c
def F227_8 : M := fun a b c => nilckV a.c0.c0 fun d => fadV 4 d fun g => ld1 g b fun i => cf 276 (vc i (vc (V.x (.func 277) V.nil (vc a.c0.c1 V.nil)) V.nil)) b fun j m => sl2 j a fun n => seqM (F227_3 j) (F227_7 cf) n m c
def F227_9 (a : V) (b : H) (c d g i j m n o : V) (p : Nat) (q : L8) (r : V) (s : KX) := ld1 a b fun t => cf 275 (vc c (vc d V.nil)) b fun u v => ld1 g v fun w => both (eqV w i) (ld1 j v fun y => both (eqV y m) (ld1 n v fun a0 => both (eqV a0 o) (ld1 a v fun b0 => both (eqV b0 t) (cf 151 (vc o (vc t V.nil)) v fun c0 d0 => ld1 g d0 fun g0 => both (eqV g0 i) (ld1 j d0 fun i0 => both (eqV i0 m) (part 0 true 1 i (vc (V.s 0 0) (vc (V.s 0 0) (vc vN (vc vN V.nil)))) fun j0 => part 1 true 1 m j0 fun m0 => part 2 true 1 u m0 fun n0 => part 3 true 1 c0 n0 fun o0 => newA (Nat.add p 0) false 4 128 (V.x .agg (vc (V.s 0 0) (vc (V.s 0 0) (vc vN (vc vN V.nil)))) V.nil) d0 fun p0 q0 => sl1 p0 q fun r0 => st false 4 p0 (V.x .agg o0 V.nil) q0 fun s0 t0 => seqM (F227_0 p0 r) (seqM (F227_1) (F227_8 cf)) r0 t0 s))))))
def F227_10 (a b : V) : M := fun c d g => resv 1 d fun i j => newA i false 5 107 a j fun m n => resv 1 n fun o p => fadV 2 m fun q => ld1 q p fun r => fadV 1 m fun s => ld1 s p fun t => lda 5 m p fun u => nilckV b fun v => fadV 0 v fun w => ld1 w p fun y => fadV 4 m fun a0 => F227_9 cf a0 p b u q r s t w y o c m g
def T227 (cf : CallF) (lf : Nat) : V → H → KV → Bool := fun l h k => onCons l fun a b => onCons b fun c d => onNil d ((F227_10 cf c a) (⟨⟨a, V.u, V.u, V.u, V.u, V.u, V.u, V.u⟩, n8 V.u, n8 V.u, n8 V.u, n8 V.u, n8 V.u, n8 V.u, n8 V.u⟩ : L8) h fun x e h => finK (fun e h k => k (V.x .tup V.nil V.nil)) k x e h)
theorem e227 : FnEq Tryz.prog G LF OF 227 T227 := fun cf lf => by kernel_rfl
theorem c227 : chkF Tryz.prog LF OF 227 = true := by kernel_rfl
def F228_0 (a b : V) : M := fun c d g => lssW a (wI 0) fun i => condV i (cf 279 (vc b (vc (wI 5) V.nil)) d fun j m => g X.r c m) (g X.n c d)
def F228_1 (a : V) (b : H) (c : V) (d : L8) (g : KX) := fadV 1 a fun i => ld1 i b fun j => neqS c j fun m => guardF m b (fun n => n d.c0.c0 b) fun o p => guardF m p (fun q => nilckV o fun r => q r p) fun s t => guardF m t (fun u => fadV 3 s fun v => u v t) fun w y => guardF m y (fun a0 => ld1 w y fun b0 => a0 b0 y) fun c0 d0 => guardF m d0 (fun g0 => g0 d.c0.c1 d0) fun i0 j0 => guardF m j0 (fun m0 => cf 206 (vc c0 (vc i0 V.nil)) j0 fun n0 o0 => m0 n0 o0) fun p0 q0 => pickV m (V.t true) p0 fun r0 => condV r0 (g X.r d q0) (g X.n d q0)
def F228_2 : M := fun a b c => resv 0 b fun d g => nilckV a.c0.c0 fun i => fadV 0 i fun j => ld1 j g fun m => iadV 5 m a.c0.c1 fun n => fadV 2 n fun o => ld1 o g fun p => nilckV a.c0.c0 fun q => F228_1 cf q g p a c
def F228_3 : M := fun a b c => nilckV a.c0.c0 fun d => fadV 3 d fun g => ld1 g b fun i => resv 1 b fun j m => part 0 true 1 a.c0.c1 (vc (wI 0) V.nil) fun n => bslA j 1 1 3 n m fun o p => app 1 3 i o p fun q r => nilckV a.c0.c0 fun s => fadV 3 s fun t => st true 1 t q r fun u v => resv 0 v fun w y => nilckV a.c0.c0 fun a0 => fadV 0 a0 fun b0 => ld1 b0 y fun c0 => nilckV a.c0.c0 fun d0 => fadV 0 d0 fun g0 => ld1 g0 y fun i0 => iadV 5 i0 a.c0.c1 fun j0 => fadV 4 j0 fun m0 => ld1 m0 y fun n0 => cf 151 (vc c0 (vc n0 V.nil)) y fun o0 p0 => cf 175 (vc a.c0.c0 (vc o0 V.nil)) p0 fun q0 r0 => c X.n a r0
def F228_4 (a b : V) : M := fun c d g => resv 1 d fun i j => newA i false 5 107 a j fun m n => resv 0 n fun o p => nilckV b fun q => fadV 0 q fun r => ld1 r p fun s => fadV 1 m fun t => ld1 t p fun u => cf 257 (vc s (vc u V.nil)) p fun v w => sl1 v c fun y => seqM (F228_0 cf v b) (seqM (F228_2 cf) (F228_3 cf)) y w g
def T228 (cf : CallF) (lf : Nat) : V → H → KV → Bool := fun l h k => onCons l fun a b => onCons b fun c d => onNil d ((F228_4 cf c a) (⟨⟨a, V.u, V.u, V.u, V.u, V.u, V.u, V.u⟩, n8 V.u, n8 V.u, n8 V.u, n8 V.u, n8 V.u, n8 V.u, n8 V.u⟩ : L8) h fun x e h => finK (fun e h k => k (V.x .tup V.nil V.nil)) k x e h)
theorem e228 : FnEq Tryz.prog G LF OF 228 T228 := fun cf lf => by kernel_rfl
theorem c228 : chkF Tryz.prog LF OF 228 = true := by kernel_rfl
def F237_0 (a : V) : M := fun b c d => nilckV a fun g => fadV 6 g fun i => ld1 i c fun j => neqW j (wI 0) fun m => condV m (sl0 (wI 0) b fun n => d X.r n c) (d X.n b c)
def F237_1 : M := fun a b c => lda 5 a.c0.c2 b fun d => cf 32 (vc a.c0.c1 (vc d V.nil)) b fun g i => sl0 g a fun j => c X.r j i
def F237_2 (a : V) (b : H) (c : V) (d : L8) (g : KX) := nilckV a fun i => fadV 2 i fun j => ld1 j b fun m => addW m (wI 1) fun n => nilckV a fun o => fadV 2 o fun p => st true 1 p n b fun q r => cf 75 (vc a V.nil) r fun s t => part 0 true 1 (wI 14) (vc (wI 0) (vc (V.s 0 0) (vc (V.s 0 0) (vc (wI 0) (vc vN V.nil))))) fun u => part 1 true 1 s u fun v => st false 5 c (V.x .agg v V.nil) t fun w y => seqM (F237_0 a) (F237_1 cf) d y g
def F237_3 (a b : V) (c : H) (d : KX) (g : L8) (i : V) := condV a (part 0 true 1 (wI 13) (vc (wI 0) (vc (V.s 0 0) (vc (V.s 0 0) (vc (wI 0) (vc vN V.nil))))) fun j => st false 5 b (V.x .agg j V.nil) c fun m n => d X.n g n) (cf 74 (vc i V.nil) c fun o p => cf 73 (vc i (vc (wI 4) (vc o V.nil))) p fun q r => sl0 (wI 0) g fun s => d X.r s r)
def F237_4 (a b : V) (c : H) (d : KX) (g : L8) (i j : V) := condV a (part 0 true 1 (wI 12) (vc (wI 0) (vc (V.s 0 0) (vc (V.s 0 0) (vc (wI 0) (vc vN V.nil))))) fun m => part 3 true 1 (wI 1) m fun n => st false 5 b (V.x .agg n V.nil) c fun o p => d X.n g p) (eqlS i (V.s 5 435728179558) fun q => condV q (part 0 true 1 (wI 12) (vc (wI 0) (vc (V.s 0 0) (vc (V.s 0 0) (vc (wI 0) (vc vN V.nil))))) fun r => st false 5 b (V.x .agg r V.nil) c fun s t => d X.n g t) (eqlS i (V.s 4 1819047278) fun u => F237_3 cf u b c d g j))
def F237_5 (a b c : V) (d : H) (g : KX) (i : L8) (j m n o : V) := condV a (part 0 true 1 (wI 10) (vc (wI 0) (vc (V.s 0 0) (vc (V.s 0 0) (vc (wI 0) (vc vN V.nil))))) fun p => part 3 true 1 b p fun q => st false 5 c (V.x .agg q V.nil) d fun r s => g X.n i s) (condV j (part 0 true 1 (wI 11) (vc (wI 0) (vc (V.s 0 0) (vc (V.s 0 0) (vc (wI 0) (vc vN V.nil))))) fun t => part 1 true 1 m t fun u => st false 5 c (V.x .agg u V.nil) d fun v w => g X.n i w) (eqlS n (V.s 4 1702195828) fun y => F237_4 cf y c d g i n o))
def F237_6 (a b c d g i j : V) : M := fun m n o => nilckV a fun p => fadV 6 p fun q => ld1 q n fun r => neqW r (wI 0) fun s => condV s (sl0 (wI 0) m fun t => o X.r t n) (eqlS b (V.s 1 36) fun u => condV u (F237_2 cf a n c m o) (F237_5 cf d g c n o m i j b a))
def F237_7 : M := fun a b c => nilckV a.c0.c1 fun d => fadV 2 d fun g => ld1 g b fun i => addW i (wI 1) fun j => nilckV a.c0.c1 fun m => fadV 2 m fun n => st true 1 n j b fun o p => lda 5 a.c0.c2 p fun q => cf 32 (vc a.c0.c1 (vc q V.nil)) p fun r s => sl0 r a fun t => c X.r t s
def F237_8 (a : H) (b : L8) (c d : V) (g : KX) := resv 1 a fun i j => newA i false 5 107 (V.x .agg (vc (wI 0) (vc (V.s 0 0) (vc (V.s 0 0) (vc (wI 0) (vc vN V.nil))))) V.nil) j fun m n => sl2 m b fun o => st false 5 m (V.x .agg (vc (wI 0) (vc (V.s 0 0) (vc (V.s 0 0) (vc (wI 0) (vc vN V.nil))))) V.nil) n fun p q => cf 282 (vc c V.nil) q fun r s => ext 0 r fun t => ext 1 r fun u => cf 283 (vc c V.nil) s fun v w => ext 0 v fun y => ext 1 v fun a0 => seqM (blockM 0 (F237_6 cf d c m u t a0 y)) (F237_7 cf) o w g
def F237_9 (a : V) : M := fun b c d => sl0 (wI 0) b fun g => cf 72 (vc a V.nil) c fun i j => F237_8 cf j g i a d
def T237 (cf : CallF) (lf : Nat) : V → H → KV → Bool := fun l h k => onCons l fun a b => onNil b ((F237_9 cf a) (⟨⟨V.u, a, V.u, V.u, V.u, V.u, V.u, V.u⟩, n8 V.u, n8 V.u, n8 V.u, n8 V.u, n8 V.u, n8 V.u, n8 V.u⟩ : L8) h fun x e h => finK (fun e h k => k e.c0.c0) k x e h)
theorem e237 : FnEq Tryz.prog G LF OF 237 T237 := fun cf lf => by kernel_rfl
theorem c237 : chkF Tryz.prog LF OF 237 = true := by kernel_rfl
def F238_0 (a : V) (b : H) (c : V) (d : L8) (g : KX) := guardF a b (fun i => fadV 1 c fun j => i j b) fun m n => guardF a n (fun o => ld1 m n fun p => o p n) fun q r => guardF a r (fun s => lenS q fun t => s t r) fun u v => guardF a v (fun w => gtrW u (wI 40) fun y => w y v) fun a0 b0 => pickV a (V.t true) a0 fun c0 => guardF c0 b0 (fun d0 => fadV 2 c fun g0 => d0 g0 b0) fun i0 j0 => guardF c0 j0 (fun m0 => ld1 i0 j0 fun n0 => m0 n0 j0) fun o0 p0 => guardF c0 p0 (fun q0 => lenS o0 fun r0 => q0 r0 p0) fun s0 t0 => guardF c0 t0 (fun u0 => gtrW s0 (wI 12) fun v0 => u0 v0 t0) fun w0 y0 => pickV c0 (V.t true) w0 fun a1 => condV a1 (sl0 (V.t false) d fun b1 => g X.r b1 y0) (g X.n d y0)
def F238_1 (a : V) (b : H) (c : V) (d : L8) (g : KX) := guardF a b (fun i => fadV 0 c fun j => i j b) fun m n => guardF a n (fun o => ld1 m n fun p => o p n) fun q r => guardF a r (fun s => lssW q (wI 1) fun t => s t r) fun u v => pickV a (V.t true) u fun w => guardF w v (fun y => fadV 0 c fun a0 => y a0 v) fun b0 c0 => guardF w c0 (fun d0 => ld1 b0 c0 fun g0 => d0 g0 c0) fun i0 j0 => guardF w j0 (fun m0 => gtrW i0 (wI 14) fun n0 => m0 n0 j0) fun o0 p0 => pickV w (V.t true) o0 fun q0 => F238_0 q0 p0 c d g
def F238_2 (a b : V) : M := fun c d g => resv 0 d fun i j => nilckV a fun m => fadV 2 m fun n => ld1 n j fun o => nilckV a fun p => fadV 0 p fun q => ld1 q j fun r => lenL r fun s => gtrW o s fun t => F238_1 t j b c g
def F238_3 (a : V) : M := fun b c d => condV a (d X.n b c) (d (X.x 0) b c)
def F238_4 : M := fun a b c => iadV 1 a.c0.c4 a.c0.c2 fun d => ld1 d b fun g => lssW g (wI 0) fun i => guardF i b (fun j => j g b) fun m n => guardF i n (fun o => o a.c0.c5 n) fun p q => guardF i q (fun r => geqV m p fun s => r s q) fun t u => pickV i (V.t true) t fun v => condV v (sl0 (V.t false) a fun w => c X.r w u) (c X.n a u)
def F238_5 : M := fun a b c => addW a.c0.c2 (wI 1) fun d => sl2 d a fun g => c X.n g b
def F238_6 : M := fun a b c => lssW a.c0.c2 a.c0.c3 fun d => seqM (F238_3 d) (seqM (blockM 1 (F238_4)) (F238_5)) a b c
def F238_7 : M := fun a b c => fadV 4 a.c0.c1 fun d => ld1 d b fun g => sl4 g a fun i => lenL g fun j => sl3 j i fun m => sl2 (wI 0) m fun n => blockM 0 (loopM lf (F238_6)) n b c
def F238_8 : M := fun a b c => sl0 (V.t true) a fun d => c X.r d b
def F238_9 (a : V) (b : H) (c : V) (d : L8) (g : KX) := nilckV a fun i => fadV 2 i fun j => ld1 j b fun m => addW m (wI 1) fun n => nilckV a fun o => fadV 2 o fun p => st true 1 p n b fun q r => nilckV a fun s => fadV 0 s fun t => ld1 t r fun u => iadV 5 u c fun v => lda 5 v r fun w => resv 1 r fun y a0 => newA y false 5 107 (V.x .agg (vc (wI 0) (vc (V.s 0 0) (vc (V.s 0 0) (vc (wI 0) (vc vN V.nil))))) V.nil) a0 fun b0 c0 => sl1 b0 d fun d0 => st false 5 b0 w c0 fun g0 i0 => seqM (F238_2 a b0) (seqM (F238_7 lf) (F238_8)) d0 i0 g
def F238_10 (a b : V) : M := fun c d g => sl0 (V.t false) c fun i => F238_9 lf a d b i g
def T238 (cf : CallF) (lf : Nat) : V → H → KV → Bool := fun l h k => onCons l fun a b => onCons b fun c d => onNil d ((F238_10 lf a c) (⟨⟨V.u, V.u, V.u, V.u, V.u, c, V.u, V.u⟩, n8 V.u, n8 V.u, n8 V.u, n8 V.u, n8 V.u, n8 V.u, n8 V.u⟩ : L8) h fun x e h => finK (fun e h k => k e.c0.c0) k x e h)
theorem e238 : FnEq Tryz.prog G LF OF 238 T238 := fun cf lf => by kernel_rfl
theorem c238 : chkF Tryz.prog LF OF 238 = true := by kernel_rfl
def F239_0 (a : V) : M := fun b c d => condV a (d X.n b c) (d (X.x 0) b c)
def F239_1 : M := fun a b c => iadV 1 a.c0.c2 a.c0.c0 fun d => ld1 d b fun g => cf 185 (vc a.c0.c3 (vc g V.nil)) b fun i j => c X.n a j
def F239_2 : M := fun a b c => addW a.c0.c0 (wI 1) fun d => sl0 d a fun g => c X.n g b
def F239_3 : M := fun a b c => lssW a.c0.c0 a.c0.c1 fun d => seqM (F239_0 d) (seqM (blockM 1 (F239_1 cf)) (F239_2)) a b c
def F239_4 (a : V) : M := fun b c d => sl2 a b fun g => lenL a fun i => sl1 i g fun j => sl0 (wI 0) j fun m => blockM 0 (loopM lf (F239_3 cf)) m c d
def T239 (cf : CallF) (lf : Nat) : V → H → KV → Bool := fun l h k => onCons l fun a b => onCons b fun c d => onNil d ((F239_4 cf lf c) (⟨⟨V.u, V.u, V.u, a, V.u, V.u, V.u, V.u⟩, n8 V.u, n8 V.u, n8 V.u, n8 V.u, n8 V.u, n8 V.u, n8 V.u⟩ : L8) h fun x e h => finK (fun e h k => k (V.x .tup V.nil V.nil)) k x e h)
theorem e239 : FnEq Tryz.prog G LF OF 239 T239 := fun cf lf => by kernel_rfl
theorem c239 : chkF Tryz.prog LF OF 239 = true := by kernel_rfl
def F240_0 (a b : V) : M := fun c d g => fadV 1 a fun i => ld1 i d fun j => neqS j (V.s 0 0) fun m => condV m (fadV 1 a fun n => ld1 n d fun o => resv 1 d fun p q => part 0 true 1 o (vc (V.s 0 0) V.nil) fun r => bslA p 1 1 9 r q fun s t => cf 241 (vc b (vc s V.nil)) t fun u v => g X.n c v) (g X.n c d)
def F240_1 : M := fun a b c => fadV 4 a.c0.c1 fun d => ld1 d b fun g => ssli 1 none (some a.c0.c2) g fun i => cf 285 (vc a.c0.c0 (vc i (vc (V.s 1 40) (vc (V.s 1 41) V.nil)))) b fun j m => c X.n a m
def F240_2 (a : H) (b c : V) (d : L8) (g : KX) := resv 1 a fun i j => part 0 true 1 (V.s 5 521610294641) (vc (V.s 0 0) (vc (V.s 0 0) V.nil)) fun m => part 1 true 1 (V.s 8 7957695015159100781) m fun n => bslA i 2 1 9 n j fun o p => fadV 3 b fun q => ld1 q p fun r => maxV r (wI 0) fun s => minV s (wI 1) fun t => iadV 1 o t fun u => ld1 u p fun v => resv 1 p fun w y => part 0 true 1 v (vc (V.s 0 0) V.nil) fun a0 => bslA w 1 1 9 a0 y fun b0 c0 => cf 241 (vc c (vc b0 V.nil)) c0 fun d0 g0 => seqM (F240_0 cf b c) (F240_1 cf) d g0 g
def F240_3 (a b c : V) : M := fun d g i => fadV 3 a fun j => ld1 j g fun m => neqW m (wI 0) fun n => guardF n g (fun o => fadV 1 a fun p => o p g) fun q r => guardF n r (fun s => ld1 q r fun t => s t r) fun u v => guardF n v (fun w => neqS u (V.s 0 0) fun y => w y v) fun a0 b0 => pickV n (V.t true) a0 fun c0 => guardF c0 b0 (fun d0 => d0 b b0) fun g0 i0 => guardF c0 i0 (fun j0 => gtrW g0 (wI 0) fun m0 => j0 m0 i0) fun n0 o0 => pickV c0 (V.t true) n0 fun p0 => condV p0 (F240_2 cf o0 a c d i) (i X.n d o0)
def F240_4 : M := fun a b c => fadV 4 a.c0.c1 fun d => ld1 d b fun g => ssli 1 (some a.c0.c2) none g fun i => cf 285 (vc a.c0.c0 (vc i (vc (V.s 1 123) (vc (V.s 1 125) V.nil)))) b fun j m => c X.n a m
def F240_5 (a b : V) : M := fun c d g => resv 1 d fun i j => newA i false 5 107 a j fun m n => sl1 m c fun o => fadV 4 m fun p => ld1 p n fun q => cf 284 (vc b (vc q (vc (wI 3) V.nil))) n fun r s => sl2 r o fun t => seqM (F240_3 cf m r b) (F240_4 cf) t s g
def T240 (cf : CallF) (lf : Nat) : V → H → KV → Bool := fun l h k => onCons l fun a b => onCons b fun c d => onNil d ((F240_5 cf c a) (⟨⟨a, V.u, V.u, V.u, V.u, V.u, V.u, V.u⟩, n8 V.u, n8 V.u, n8 V.u, n8 V.u, n8 V.u, n8 V.u, n8 V.u⟩ : L8) h fun x e h => finK (fun e h k => k (V.x .tup V.nil V.nil)) k x e h)
theorem e240 : FnEq Tryz.prog G LF OF 240 T240 := fun cf lf => by kernel_rfl
theorem c240 : chkF Tryz.prog LF OF 240 = true := by kernel_rfl
def F241_0 (a b : V) : M := fun c d g => nilckV a fun i => fadV 1 i fun j => ld1 j d fun m => app 1 9 m b d fun n o => nilckV a fun p => fadV 1 p fun q => st true 1 q n o fun r s => g X.n c s
def T241 (cf : CallF) (lf : Nat) : V → H → KV → Bool := fun l h k => onCons l fun a b => onCons b fun c d => onNil d ((F241_0 a c) (⟨n8 V.u, n8 V.u, n8 V.u, n8 V.u, n8 V.u, n8 V.u, n8 V.u, n8 V.u⟩ : L8) h fun x e h => finK (fun e h k => k (V.x .tup V.nil V.nil)) k x e h)
theorem e241 : FnEq Tryz.prog G LF OF 241 T241 := fun cf lf => by kernel_rfl
theorem c241 : chkF Tryz.prog LF OF 241 = true := by kernel_rfl
def F242_0 (a b : V) : M := fun c d g => fadV 0 a fun i => ld1 i d fun j => eqlW j (wI 5) fun m => condV m (fadV 1 a fun n => ld1 n d fun o => resv 1 d fun p q => part 0 true 1 o (vc (V.s 0 0) (vc (V.s 0 0) V.nil)) fun r => part 1 true 1 (V.s 1 58) r fun s => bslA p 2 1 9 s q fun t u => cf 241 (vc b (vc t V.nil)) u fun v w => fadV 4 a fun y => ld1 y w fun a0 => cf 239 (vc b (vc a0 V.nil)) w fun b0 c0 => g X.r c c0) (g X.n c d)
def F242_1 : M := fun a b c => fadV 0 a.c0.c0 fun d => ld1 d b fun g => eqlW g (wI 6) fun i => condV i (resv 1 b fun j m => part 0 true 1 (V.s 1 64) (vc (V.s 0 0) V.nil) fun n => bslA j 1 1 9 n m fun o p => cf 241 (vc a.c0.c1 (vc o V.nil)) p fun q r => c X.n a r) (c X.n a b)
def F242_2 : M := fun a b c => fadV 2 a.c0.c0 fun d => ld1 d b fun g => neqS g (V.s 0 0) fun i => condV i (fadV 2 a.c0.c0 fun j => ld1 j b fun m => resv 1 b fun n o => part 0 true 1 m (vc (V.s 0 0) (vc (V.s 0 0) V.nil)) fun p => part 1 true 1 (V.s 1 58) p fun q => bslA n 2 1 9 q o fun r s => cf 241 (vc a.c0.c1 (vc r V.nil)) s fun t u => c X.n a u) (c X.n a b)
def F242_3 (a : L8) (b : H) (c : KX) := fadV 4 a.c0.c0 fun d => ld1 d b fun g => cf 284 (vc a.c0.c1 (vc g (vc (wI 5) V.nil))) b fun i j => fadV 4 a.c0.c0 fun m => ld1 m j fun n => ssli 1 none (some i) n fun o => cf 285 (vc a.c0.c1 (vc o (vc (V.s 1 40) (vc (V.s 1 41) V.nil)))) j fun p q => fadV 4 a.c0.c0 fun r => ld1 r q fun s => ssli 1 (some i) none s fun t => cf 286 (vc a.c0.c1 (vc t V.nil)) q fun u v => c X.n a v
def F242_4 : M := fun a b c => fadV 1 a.c0.c0 fun d => ld1 d b fun g => resv 1 b fun i j => part 0 true 1 g (vc (V.s 0 0) V.nil) fun m => bslA i 1 1 9 m j fun n o => cf 241 (vc a.c0.c1 (vc n V.nil)) o fun p q => F242_3 cf a q c
def F242_5 (a b : V) : M := fun c d g => resv 1 d fun i j => newA i false 5 107 a j fun m n => sl0 m c fun o => seqM (F242_0 cf m b) (seqM (F242_1 cf) (seqM (F242_2 cf) (F242_4 cf))) o n g
def T242 (cf : CallF) (lf : Nat) : V → H → KV → Bool := fun l h k => onCons l fun a b => onCons b fun c d => onNil d ((F242_5 cf c a) (⟨⟨V.u, a, V.u, V.u, V.u, V.u, V.u, V.u⟩, n8 V.u, n8 V.u, n8 V.u, n8 V.u, n8 V.u, n8 V.u, n8 V.u⟩ : L8) h fun x e h => finK (fun e h k => k (V.x .tup V.nil V.nil)) k x e h)
theorem e242 : FnEq Tryz.prog G LF OF 242 T242 := fun cf lf => by kernel_rfl
theorem c242 : chkF Tryz.prog LF OF 242 = true := by kernel_rfl
def F243_0 (a : H) (b c : V) (d : KX) (g : L8) := resv 1 a fun i j => part 0 true 1 (V.s 3 3026478) (vc (V.s 0 0) V.nil) fun m => bslA i 1 1 9 m j fun n o => cf 241 (vc b (vc n V.nil)) o fun p q => fadV 2 c fun r => ld1 r q fun s => neqS s (V.s 0 0) fun t => condV t (fadV 2 c fun u => ld1 u q fun v => resv 1 q fun w y => part 0 true 1 (V.s 2 28271) (vc (V.s 0 0) (vc (V.s 0 0) V.nil)) fun a0 => part 1 true 1 v a0 fun b0 => bslA w 2 1 9 b0 y fun c0 d0 => cf 241 (vc b (vc c0 V.nil)) d0 fun g0 i0 => d X.n g i0) (d X.n g q)
def F243_1 (a b : V) (c : H) (d : V) (g : KX) (i : L8) (j : V) := condV a (fadV 1 b fun m => ld1 m c fun n => fadV 2 b fun o => ld1 o c fun p => resv 1 c fun q r => part 0 true 1 (V.s 8 8389754676398092902) (vc (V.s 0 0) (vc (V.s 0 0) (vc (V.s 0 0) (vc (V.s 0 0) V.nil)))) fun s => part 1 true 1 n s fun t => part 2 true 1 (V.s 2 28271) t fun u => part 3 true 1 p u fun v => bslA q 4 1 9 v r fun w y => cf 241 (vc d (vc w V.nil)) y fun a0 b0 => g X.n i b0) (eqlW j (wI 7) fun c0 => condV c0 (fadV 1 b fun d0 => ld1 d0 c fun g0 => resv 1 c fun i0 j0 => part 0 true 1 (V.s 3 3026478) (vc (V.s 0 0) (vc (V.s 0 0) V.nil)) fun m0 => part 1 true 1 g0 m0 fun n0 => bslA i0 2 1 9 n0 j0 fun o0 p0 => cf 241 (vc d (vc o0 V.nil)) p0 fun q0 r0 => g X.n i r0) (F243_0 cf c d b g i))
def F243_2 (a b c : V) : M := fun d g i => eqlW a (wI 9) fun j => F243_1 cf j b g c i d a
def F243_3 (a b : V) : M := fun c d g => fadV 0 a fun i => ld1 i d fun j => blockM 0 (F243_2 cf j a b) c d g
def F243_4 : M := fun a b c => fadV 4 a.c0.c1 fun d => ld1 d b fun g => cf 286 (vc a.c0.c0 (vc g V.nil)) b fun i j => c X.n a j
def F243_5 (a b : V) : M := fun c d g => resv 1 d fun i j => newA i false 5 107 a j fun m n => sl1 m c fun o => seqM (F243_3 cf m b) (F243_4 cf) o n g
def T243 (cf : CallF) (lf : Nat) : V → H → KV → Bool := fun l h k => onCons l fun a b => onCons b fun c d => onNil d ((F243_5 cf c a) (⟨⟨a, V.u, V.u, V.u, V.u, V.u, V.u, V.u⟩, n8 V.u, n8 V.u, n8 V.u, n8 V.u, n8 V.u, n8 V.u, n8 V.u⟩ : L8) h fun x e h => finK (fun e h k => k (V.x .tup V.nil V.nil)) k x e h)
theorem e243 : FnEq Tryz.prog G LF OF 243 T243 := fun cf lf => by kernel_rfl
theorem c243 : chkF Tryz.prog LF OF 243 = true := by kernel_rfl
def F244_0 (a : V) (b : H) (c d : V) (g : KX) (i : L8) := nilckV a fun j => fadV 3 j fun m => ld1 m b fun n => guardF n b (fun o => o c b) fun p q => guardF n q (fun r => neqW p (wI 0) fun s => r s q) fun t u => pickV n (V.t true) t fun v => nilckV a fun w => fadV 3 w fun y => st true 1 y v u fun a0 b0 => resv 1 b0 fun c0 d0 => part 0 true 1 d (vc (V.s 0 0) V.nil) fun g0 => bslA c0 1 1 9 g0 d0 fun i0 j0 => cf 241 (vc a (vc i0 V.nil)) j0 fun m0 n0 => g X.n i n0
def F244_1 (a : H) (b c : V) (d : KX) (g : L8) := resv 1 a fun i j => part 0 true 1 (V.s 5 435728179558) (vc (V.s 0 0) (vc (V.s 0 0) V.nil)) fun m => part 1 true 1 (V.s 4 1702195828) m fun n => bslA i 2 1 9 n j fun o p => fadV 3 b fun q => ld1 q p fun r => maxV r (wI 0) fun s => minV s (wI 1) fun t => iadV 1 o t fun u => ld1 u p fun v => resv 1 p fun w y => part 0 true 1 v (vc (V.s 0 0) V.nil) fun a0 => bslA w 1 1 9 a0 y fun b0 c0 => cf 241 (vc c (vc b0 V.nil)) c0 fun d0 g0 => d X.n g g0
def F244_2 (a : V) (b : H) (c : V) (d : KX) (g : L8) (i : V) := condV a (resv 1 b fun j m => part 0 true 1 (V.s 4 1819047278) (vc (V.s 0 0) V.nil) fun n => bslA j 1 1 9 n m fun o p => cf 241 (vc c (vc o V.nil)) p fun q r => d X.n g r) (fadV 1 i fun s => ld1 s b fun t => resv 1 b fun u v => part 0 true 1 (V.s 1 36) (vc (V.s 0 0) (vc (V.s 0 0) V.nil)) fun w => part 1 true 1 t w fun y => bslA u 2 1 9 y v fun a0 b0 => cf 241 (vc c (vc a0 V.nil)) b0 fun c0 d0 => d X.n g d0)
def F244_3 (a b : V) (c : H) (d : V) (g : KX) (i : L8) (j : V) := condV a (fadV 3 b fun m => ld1 m c fun n => cf 287 (vc n V.nil) c fun o p => resv 1 p fun q r => part 0 true 1 o (vc (V.s 0 0) V.nil) fun s => bslA q 1 1 9 s r fun t u => cf 241 (vc d (vc t V.nil)) u fun v w => g X.n i w) (eqlW j (wI 11) fun y => condV y (fadV 1 b fun a0 => ld1 a0 c fun b0 => cf 288 (vc b0 V.nil) c fun c0 d0 => ext 0 c0 fun g0 => ext 1 c0 fun i0 => F244_0 cf d d0 i0 g0 g i) (eqlW j (wI 12) fun j0 => condV j0 (F244_1 cf c b d g i) (eqlW j (wI 13) fun m0 => F244_2 cf m0 c d g i b)))
def F244_4 (a b c : V) : M := fun d g i => eqlW a (wI 10) fun j => F244_3 cf j b g c i d a
def F244_5 (a b : V) : M := fun c d g => resv 1 d fun i j => newA i false 5 107 a j fun m n => fadV 0 m fun o => ld1 o n fun p => blockM 0 (F244_4 cf p m b) c n g
def T244 (cf : CallF) (lf : Nat) : V → H → KV → Bool := fun l h k => onCons l fun a b => onCons b fun c d => onNil d ((F244_5 cf c a) (⟨n8 V.u, n8 V.u, n8 V.u, n8 V.u, n8 V.u, n8 V.u, n8 V.u, n8 V.u⟩ : L8) h fun x e h => finK (fun e h k => k (V.x .tup V.nil V.nil)) k x e h)
theorem e244 : FnEq Tryz.prog G LF OF 244 T244 := fun cf lf => by kernel_rfl
theorem c244 : chkF Tryz.prog LF OF 244 = true := by kernel_rfl
def F245_0 (a : V) : M := fun b c d => lssW a (wI 0) fun g => condV g (false) (d X.n b c)
def F245_1 : M := fun a b c => resv 0 b fun d g => nilckV a.c0.c0 fun i => fadV 1 i fun j => ld1 j g fun m => nilckV a.c0.c0 fun n => fadV 1 n fun o => ld1 o g fun p => capL m fun q => lenL p fun r => subW q r fun s => lssW s a.c0.c1 fun t => condV t (cf 290 (vc a.c0.c0 (vc a.c0.c1 V.nil)) g fun u v => c X.n a v) (c X.n a g)
def F245_2 (a b : V) : M := fun c d g => cf 289 (vc a V.nil) d fun i j => seqM (F245_0 b) (F245_1 cf) c j g
def T245 (cf : CallF) (lf : Nat) : V → H → KV → Bool := fun l h k => onCons l fun a b => onCons b fun c d => onNil d ((F245_2 cf a c) (⟨⟨a, c, V.u, V.u, V.u, V.u, V.u, V.u⟩, n8 V.u, n8 V.u, n8 V.u, n8 V.u, n8 V.u, n8 V.u, n8 V.u⟩ : L8) h fun x e h => finK (fun e h k => k (V.x .tup V.nil V.nil)) k x e h)
theorem e245 : FnEq Tryz.prog G LF OF 245 T245 := fun cf lf => by kernel_rfl
theorem c245 : chkF Tryz.prog LF OF 245 = true := by kernel_rfl
def F246_0 (a b : V) : M := fun c d g => sl0 (wI 0) c fun i => sl1 (V.x .inil V.nil V.nil) i fun j => cf 289 (vc a V.nil) d fun m n => nilckV a fun o => fadV 1 o fun p => ld1 p n fun q => app 1 5 q b n fun r s => nilckV a fun t => fadV 1 t fun u => st true 1 u r s fun v w => lenS b fun y => sl0 y j fun a0 => sl1 (V.x .inil V.nil V.nil) a0 fun b0 => g X.r b0 w
def T246 (cf : CallF) (lf : Nat) : V → H → KV → Bool := fun l h k => onCons l fun a b => onCons b fun c d => onNil d ((F246_0 cf a c) (⟨n8 V.u, n8 V.u, n8 V.u, n8 V.u, n8 V.u, n8 V.u, n8 V.u, n8 V.u⟩ : L8) h fun x e h => finK (fun e h k => k (V.x .tup (vc e.c0.c0 (vc e.c0.c1 V.nil)) V.nil)) k x e h)
theorem e246 : FnEq Tryz.prog G LF OF 246 T246 := fun cf lf => by kernel_rfl
theorem c246 : chkF Tryz.prog LF OF 246 = true := by kernel_rfl
def F247_0 (a : V) : M := fun b c d => sl0 (V.s 0 0) b fun g => resv 0 c fun i j => nilckV a fun m => fadV 1 m fun n => ld1 n j fun o => nilckV a fun p => fadV 1 p fun q => ld1 q j fun r => sdata o fun s => lenL r fun t => usS 5 s t j fun u v => sl0 u g fun w => d X.r w v
def T247 (cf : CallF) (lf : Nat) : V → H → KV → Bool := fun l h k => onCons l fun a b => onNil b ((F247_0 a) (⟨n8 V.u, n8 V.u, n8 V.u, n8 V.u, n8 V.u, n8 V.u, n8 V.u, n8 V.u⟩ : L8) h fun x e h => finK (fun e h k => k e.c0.c0) k x e h)
theorem e247 : FnEq Tryz.prog G LF OF 247 T247 := fun cf lf => by kernel_rfl
theorem c247 : chkF Tryz.prog LF OF 247 = true := by kernel_rfl
def F248_0 (a : V) : M := fun b c d => lenS a fun g => gtrW g (wI 3000) fun i => condV i (sl0 vN b fun j => sl1 (wI 0) j fun m => sl2 (wI 2) m fun n => d X.r n c) (d X.n b c)
def F248_1 : M := fun a b c => lenS a.c0.c4 fun d => lssW a.c0.c3 d fun g => condV g (c X.n a b) (c (X.x 0) a b)
def F248_2 : M := fun a b c => sstr (some a.c0.c3) none a.c0.c4 fun d => cf 291 (vc d V.nil) b fun g i => gtrW g (wI 0) fun j => condV j (addW a.c0.c3 g fun m => sl3 m a fun n => c (X.x 1) n i) (c X.n a i)
def F248_3 (a : V) : M := fun b c d => eqlW a (wI 0) fun g => condV g (sl0 vN b fun i => sl1 b.c0.c3 i fun j => sl2 (wI 4) j fun m => d X.r m c) (d X.n b c)
def F248_4 : M := fun a b c => addW a.c0.c3 a.c0.c5 fun d => sstr (some a.c0.c3) (some d) a.c0.c4 fun g => part 0 true 1 g (vc (V.s 0 0) (vc (wI 0) V.nil)) fun i => part 1 true 1 a.c0.c3 i fun j => resv 1 b fun m n => part 0 false 2 (V.x .agg j V.nil) (vc (V.s 0 0) (vc (wI 0) V.nil)) fun o => bslA m 1 2 157 o n fun p q => app 2 157 a.c0.c0 p q fun r s => sl0 r a fun t => addW t.c0.c3 t.c0.c5 fun u => sl3 u t fun v => c X.n v s
def F248_5 : M := fun a b c => sstr (some a.c0.c3) none a.c0.c4 fun d => cf 252 (vc d V.nil) b fun g i => sl5 g a fun j => seqM (F248_3 g) (F248_4) j i c
def F248_6 : M := fun a b c => sl3 (wI 0) a fun d => blockM 0 (loopM lf (seqM (F248_1) (blockM 1 (seqM (F248_2 cf) (F248_5 cf))))) d b c
def F248_7 : M := fun a b c => sl0 a.c0.c0 a fun d => sl1 (wI 0) d fun g => sl2 (wI 0) g fun i => c X.r i b
def F248_8 (a : V) : M := fun b c d => sl0 vN b fun g => sl1 (wI 0) g fun i => sl2 (wI 0) i fun j => seqM (F248_0 a) (seqM (F248_6 cf lf) (F248_7)) j c d
def T248 (cf : CallF) (lf : Nat) : V → H → KV → Bool := fun l h k => onCons l fun a b => onNil b ((F248_8 cf lf a) (⟨⟨V.u, V.u, V.u, V.u, a, V.u, V.u, V.u⟩, n8 V.u, n8 V.u, n8 V.u, n8 V.u, n8 V.u, n8 V.u, n8 V.u⟩ : L8) h fun x e h => finK (fun e h k => k (V.x .tup (vc e.c0.c0 (vc e.c0.c1 (vc e.c0.c2 V.nil))) V.nil)) k x e h)
theorem e248 : FnEq Tryz.prog G LF OF 248 T248 := fun cf lf => by kernel_rfl
theorem c248 : chkF Tryz.prog LF OF 248 = true := by kernel_rfl
def F249_0 (a : V) : M := fun b c d => eqN nilI idB a (V.x .inil V.nil V.nil) fun g => condV g (sl0 (V.t false) b fun i => d X.r i c) (d X.n b c)
def F249_1 : M := fun a b c => eqN nilI idB a.c0.c1 (V.x .inil V.nil V.nil) fun d => condV d (false) (c X.n a b)
def F249_2 : M := fun a b c => cf 292 (vc a.c0.c1 V.nil) b fun d g => resv 1 g fun i j => newA i false 3 356 (V.x .agg (vc (V.x .pnil V.nil V.nil) (vc (V.x .pnil V.nil V.nil) (vc (mkI .u64 0) V.nil))) V.nil) j fun m n => sl4 m a fun o => st false 3 m d n fun p q => lda 3 m q fun r => cf 293 (vc r V.nil) q fun s t => sl2 s o fun u => seqM (fun v w y => false) (fun a0 b0 c0 => false) u t c
def F249_3 (a : V) : M := fun b c d => sl0 (V.t false) b fun g => seqM (F249_0 a) (seqM (F249_1) (F249_2 cf)) g c d
def T249 (cf : CallF) (lf : Nat) : V → H → KV → Bool := fun l h k => onCons l fun a b => onCons b fun c d => onNil d ((F249_3 cf a) (⟨⟨V.u, c, V.u, a, V.u, V.u, V.u, V.u⟩, n8 V.u, n8 V.u, n8 V.u, n8 V.u, n8 V.u, n8 V.u, n8 V.u⟩ : L8) h fun x e h => finK (fun e h k => k e.c0.c0) k x e h)
theorem e249 : FnEq Tryz.prog G LF OF 249 T249 := fun cf lf => by kernel_rfl
theorem c249 : chkF Tryz.prog LF OF 249 = true := by kernel_rfl
def F250_0 : M := fun a b c => resv 0 b fun d g => fadV 4 a.c0.c1 fun i => ld1 i g fun j => lenL j fun m => eqlW m (wI 0) fun n => guardF n g (fun o => o a.c0.c2 g) fun p q => guardF n q (fun r => nilckV p fun s => r s q) fun t u => guardF n u (fun v => fadV 1 t fun w => v w u) fun y a0 => guardF n a0 (fun b0 => ld1 y a0 fun c0 => b0 c0 a0) fun d0 g0 => guardF n g0 (fun i0 => i0 a.c0.c2 g0) fun j0 m0 => guardF n m0 (fun n0 => nilckV j0 fun o0 => n0 o0 m0) fun p0 q0 => guardF n q0 (fun r0 => fadV 0 p0 fun s0 => r0 s0 q0) fun t0 u0 => guardF n u0 (fun v0 => ld1 t0 u0 fun w0 => v0 w0 u0) fun y0 a1 => guardF n a1 (fun b1 => lenL y0 fun c1 => b1 c1 a1) fun d1 g1 => guardF n g1 (fun i1 => lssW d0 d1 fun j1 => i1 j1 g1) fun m1 n1 => pickV n (V.t true) m1 fun o1 => condV o1 (c X.n a n1) (c (X.x 0) a n1)
def F250_1 (a : V) : M := fun b c d => eqN nilI nots a (V.x .inil V.nil V.nil) fun g => condV g (cf 297 (vc (V.s 10 521515500522236950242660) (vc a V.nil)) c fun i j => sl0 i b fun m => d X.r m j) (d X.n b c)
def F250_2 : M := fun a b c => fadV 4 a.c0.c1 fun d => ld1 d b fun g => resv 1 b fun i j => part 0 true 1 a.c0.c3 (vc (wI 0) V.nil) fun m => bslA i 1 1 3 m j fun n o => app 1 3 g n o fun p q => fadV 4 a.c0.c1 fun r => st true 1 r p q fun s t => c X.n a t
def F250_3 : M := fun a b c => cf 296 (vc a.c0.c2 V.nil) b fun d g => ext 0 d fun i => ext 1 d fun j => sl3 i a fun m => seqM (F250_1 cf j) (F250_2) m g c
def F250_4 : M := fun a b c => lda 5 a.c0.c1 b fun d => cf 298 (vc a.c0.c2 (vc d (vc (V.x .inil V.nil V.nil) V.nil))) b fun g i => ext 0 g fun j => ext 1 g fun m => sl0 m a fun n => c X.r n i
def F250_5 (a : H) (b : L8) (c : KX) := part 0 true 1 (wI 1) (vc (wI 0) (vc (V.s 0 0) (vc (V.s 0 0) (vc (wI 0) (vc vN V.nil))))) fun d => resv 1 a fun g i => newA g false 5 107 (V.x .agg (vc (wI 0) (vc (V.s 0 0) (vc (V.s 0 0) (vc (wI 0) (vc vN V.nil))))) V.nil) i fun j m => sl1 j b fun n => st false 5 j (V.x .agg d V.nil) m fun o p => seqM (blockM 0 (loopM lf (seqM (F250_0) (blockM 1 (F250_3 cf))))) (F250_4 cf) n p c
def F250_6 : M := fun a b c => sl0 (V.x .inil V.nil V.nil) a fun d => F250_5 cf lf b d c
def T250 (cf : CallF) (lf : Nat) : V → H → KV → Bool := fun l h k => onCons l fun a b => onNil b ((F250_6 cf lf) (⟨⟨V.u, V.u, a, V.u, V.u, V.u, V.u, V.u⟩, n8 V.u, n8 V.u, n8 V.u, n8 V.u, n8 V.u, n8 V.u, n8 V.u⟩ : L8) h fun x e h => finK (fun e h k => k e.c0.c0) k x e h)
theorem e250 : FnEq Tryz.prog G LF OF 250 T250 := fun cf lf => by kernel_rfl
theorem c250 : chkF Tryz.prog LF OF 250 = true := by kernel_rfl
def F251_0 (a b : V) : M := fun c d g => lenL a fun i => lenL b fun j => neqW i j fun m => condV m (sl0 (V.t false) c fun n => g X.r n d) (g X.n c d)
def F251_1 (a : V) : M := fun b c d => condV a (d X.n b c) (d (X.x 0) b c)
def F251_2 : M := fun a b c => resv 0 b fun d g => iadV 1 a.c0.c1 a.c0.c2 fun i => ld1 i g fun j => iadV 1 a.c0.c4 a.c0.c2 fun m => ld1 m g fun n => neqW j n fun o => condV o (sl0 (V.t false) a fun p => c X.r p g) (c X.n a g)
def F251_3 : M := fun a b c => addW a.c0.c2 (wI 1) fun d => sl2 d a fun g => c X.n g b
def F251_4 : M := fun a b c => lssW a.c0.c2 a.c0.c3 fun d => seqM (F251_1 d) (seqM (blockM 1 (F251_2)) (F251_3)) a b c
def F251_5 : M := fun a b c => lenL a.c0.c1 fun d => sl3 d a fun g => sl2 (wI 0) g fun i => blockM 0 (loopM lf (F251_4)) i b c
def F251_6 : M := fun a b c => sl0 (V.t true) a fun d => c X.r d b
def F251_7 (a b : V) : M := fun c d g => sl0 (V.t false) c fun i => seqM (F251_0 a b) (seqM (F251_5 lf) (F251_6)) i d g
def T251 (cf : CallF) (lf : Nat) : V → H → KV → Bool := fun l h k => onCons l fun a b => onCons b fun c d => onNil d ((F251_7 lf a c) (⟨⟨V.u, a, V.u, V.u, c, V.u, V.u, V.u⟩, n8 V.u, n8 V.u, n8 V.u, n8 V.u, n8 V.u, n8 V.u, n8 V.u⟩ : L8) h fun x e h => finK (fun e h k => k e.c0.c0) k x e h)
theorem e251 : FnEq Tryz.prog G LF OF 251 T251 := fun cf lf => by kernel_rfl
theorem c251 : chkF Tryz.prog LF OF 251 = true := by kernel_rfl
def F252_0 (a : V) : M := fun b c d => gtrW a (wI 12) fun g => condV g (sl0 (wI 0) b fun i => d X.r i c) (d X.n b c)
def F252_1 : M := fun a b c => sl0 a.c0.c1 a fun d => c X.r d b
def F252_2 (a b : V) (c : H) (d : L8) (g : KX) (i : V) := condV a (cf 303 (vc b V.nil) c fun j m => ext 0 j fun n => ext 1 j fun o => ext 2 j fun p => guardT p m (fun q => q n m) fun r s => guardT p s (fun t => lenS r fun u => t u s) fun v w => guardT p w (fun y => leqW v (wI 40) fun a0 => y a0 w) fun b0 c0 => pickV p b0 (V.t false) fun d0 => condV d0 (sl0 o d fun g0 => g X.r g0 c0) (g X.n d c0)) (cf 304 (vc b (vc (V.s 3 3026478) V.nil)) c fun i0 j0 => condV i0 (sl0 (wI 3) d fun m0 => g X.r m0 j0) (cf 305 (vc (V.s 11 151698300651743244156675105) (vc i V.nil)) j0 fun n0 o0 => geqV n0 (wI 0) fun p0 => condV p0 (sl0 (wI 1) d fun q0 => g X.r q0 o0) (g X.n d o0)))
def F252_3 (a b : V) (c : H) (d : L8) (g : KX) (i : V) := condV a (cf 299 (vc b (vc (V.x (.func 300) V.nil V.nil) V.nil)) c fun j m => sl1 j d fun n => seqM (F252_0 j) (F252_1) n m g) (eqlY i (V.y 45) fun o => guardF o c (fun p => p i c) fun q r => guardF o r (fun s => cf 301 (vc q V.nil) r fun t u => s t u) fun v w => pickV o (V.t true) v fun y => condV y (cf 302 (vc b V.nil) w fun a0 b0 => ext 0 a0 fun c0 => ext 1 a0 fun d0 => ext 2 a0 fun g0 => condV g0 (sl0 d0 d fun i0 => g X.r i0 b0) (g X.n d b0)) (eqlY i (V.y 34) fun j0 => F252_2 cf j0 b w d g i))
def F252_4 (a b : V) : M := fun c d g => cf 191 (vc a V.nil) d fun i j => F252_3 cf i b j c g a
def F252_5 (a : V) : M := fun b c d => sidxV a (wI 0) fun g => blockM 0 (F252_4 cf g a) b c d
def F252_6 : M := fun a b c => sl0 (wI 0) a fun d => c X.r d b
def F252_7 (a : V) : M := fun b c d => sl0 (wI 0) b fun g => seqM (F252_5 cf a) (F252_6) g c d
def T252 (cf : CallF) (lf : Nat) : V → H → KV → Bool := fun l h k => onCons l fun a b => onNil b ((F252_7 cf a) (⟨n8 V.u, n8 V.u, n8 V.u, n8 V.u, n8 V.u, n8 V.u, n8 V.u, n8 V.u⟩ : L8) h fun x e h => finK (fun e h k => k e.c0.c0) k x e h)
theorem e252 : FnEq Tryz.prog G LF OF 252 T252 := fun cf lf => by kernel_rfl
theorem c252 : chkF Tryz.prog LF OF 252 = true := by kernel_rfl
def F253_0 (a : V) : M := fun b c d => condV a (d X.n b c) (d (X.x 0) b c)
def F253_1 : M := fun a b c => iadV 1 a.c0.c4 a.c0.c1 fun d => ld1 d b fun g => eqlS a.c0.c3 g fun i => condV i (sl0 a.c0.c1 a fun j => c X.r j b) (c X.n a b)
def F253_2 : M := fun a b c => addW a.c0.c1 (wI 1) fun d => sl1 d a fun g => c X.n g b
def F253_3 : M := fun a b c => lssW a.c0.c1 a.c0.c2 fun d => seqM (F253_0 d) (seqM (blockM 1 (F253_1)) (F253_2)) a b c
def F253_4 (a : V) : M := fun b c d => lenL a fun g => sl2 g b fun i => sl1 (wI 0) i fun j => blockM 0 (loopM lf (F253_3)) j c d
def F253_5 : M := fun a b c => sl0 (V.w 9223372036854775807) a fun d => c X.r d b
def F253_6 (a : V) : M := fun b c d => sl0 (wI 0) b fun g => seqM (F253_4 lf a) (F253_5) g c d
def T253 (cf : CallF) (lf : Nat) : V → H → KV → Bool := fun l h k => onCons l fun a b => onCons b fun c d => onNil d ((F253_6 lf a) (⟨⟨V.u, V.u, V.u, c, a, V.u, V.u, V.u⟩, n8 V.u, n8 V.u, n8 V.u, n8 V.u, n8 V.u, n8 V.u, n8 V.u⟩ : L8) h fun x e h => finK (fun e h k => k e.c0.c0) k x e h)
theorem e253 : FnEq Tryz.prog G LF OF 253 T253 := fun cf lf => by kernel_rfl
theorem c253 : chkF Tryz.prog LF OF 253 = true := by kernel_rfl
def F257_0 (a b : V) : M := fun c d g => resv 1 d fun i j => newA i true 1 9 a j fun m n => sl0 (wI 0) c fun o => cf 309 (vc b (vc (V.x (.func 310) V.nil (vc m V.nil)) V.nil)) n fun p q => sl0 p o fun r => g X.r r q
def T257 (cf : CallF) (lf : Nat) : V → H → KV → Bool := fun l h k => onCons l fun a b => onCons b fun c d => onNil d ((F257_0 cf c a) (⟨n8 V.u, n8 V.u, n8 V.u, n8 V.u, n8 V.u, n8 V.u, n8 V.u, n8 V.u⟩ : L8) h fun x e h => finK (fun e h k => k e.c0.c0) k x e h)
theorem e257 : FnEq Tryz.prog G LF OF 257 T257 := fun cf lf => by kernel_rfl
theorem c257 : chkF Tryz.prog LF OF 257 = true := by kernel_rfl
def F258_0 : M := fun a b c => sl0 vN a fun d => resv 1 b fun g i => part 0 true 1 (V.s 5 521610294609) (vc (V.s 0 0) (vc (V.s 0 0) (vc (V.s 0 0) (vc (V.s 0 0) (vc (V.s 0 0) V.nil))))) fun j => part 1 true 1 (V.s 8 7957695015159100749) j fun m => part 2 true 1 (V.s 4 1634165075) m fun n => part 3 true 1 (V.s 5 521611275845) n fun o => part 4 true 1 (V.s 4 1885697107) o fun p => bslA g 5 1 9 p i fun q r => sl0 q d fun s => c X.r s r
def T258 (cf : CallF) (lf : Nat) : V → H → KV → Bool := fun l h k => onNil l ((F258_0) (⟨n8 V.u, n8 V.u, n8 V.u, n8 V.u, n8 V.u, n8 V.u, n8 V.u, n8 V.u⟩ : L8) h fun x e h => finK (fun e h k => k e.c0.c0) k x e h)
theorem e258 : FnEq Tryz.prog G LF OF 258 T258 := fun cf lf => by kernel_rfl
theorem c258 : chkF Tryz.prog LF OF 258 = true := by kernel_rfl
def F259_0 : M := fun a b c => lenL a.c0.c1 fun d => gtrW d (wI 0) fun g => condV g (c X.n a b) (c (X.x 0) a b)
def F259_1 (a : V) : M := fun b c d => eqlW a b.c0.c2 fun g => condV g (sl0 (V.t true) b fun i => d X.r i c) (d X.n b c)
def F259_2 : M := fun a b c => iadV 1 a.c0.c3 a.c0.c4 fun d => ld1 d b fun g => notV g fun i => condV i (iadV 1 a.c0.c3 a.c0.c4 fun j => st true 1 j (V.t true) b fun m n => cf 311 (vc a.c0.c5 (vc a.c0.c4 V.nil)) n fun o p => app 1 3 a.c0.c1 o p fun q r => sl1 q a fun s => c X.n s r) (c X.n a b)
def F259_3 : M := fun a b c => iadV 1 a.c0.c1 (wI 0) fun d => ld1 d b fun g => sl4 g a fun i => ssli 1 (some (wI 1)) none i.c0.c1 fun j => sl1 j i fun m => seqM (F259_1 g) (F259_2 cf) m b c
def F259_4 : M := fun a b c => sl0 (V.t false) a fun d => c X.r d b
def F259_5 (a b : V) : M := fun c d g => sl0 (V.t false) c fun i => cf 311 (vc a (vc b V.nil)) d fun j m => sl1 j i fun n => nilckV a fun o => fadV 0 o fun p => ld1 p m fun q => lenL q fun r => resv 1 m fun s t => mkslA s 4 (V.t false) r r t fun u v => sl3 u n fun w => seqM (blockM 0 (loopM lf (seqM (F259_0) (blockM 1 (F259_3 cf))))) (F259_4) w v g
def T259 (cf : CallF) (lf : Nat) : V → H → KV → Bool := fun l h k => onCons l fun a b => onCons b fun c d => onNil d ((F259_5 cf lf a c) (⟨⟨V.u, V.u, c, V.u, V.u, a, V.u, V.u⟩, n8 V.u, n8 V.u, n8 V.u, n8 V.u, n8 V.u, n8 V.u, n8 V.u⟩ : L8) h fun x e h => finK (fun e h k => k e.c0.c0) k x e h)
theorem e259 : FnEq Tryz.prog G LF OF 259 T259 := fun cf lf => by kernel_rfl
theorem c259 : chkF Tryz.prog LF OF 259 = true := by kernel_rfl
def F260_0 (a b : V) : M := fun c d g => cf 204 (vc a (vc b (vc (wI 5) V.nil))) d fun i j => notV i fun m => condV m (g X.r c j) (g X.n c j)
def F260_1 (a : V) (b : L8) (c : H) (d : KX) := lenL a fun g => gtrW g (wI 0) fun i => fadV 0 b.c0.c2 fun j => ld1 j c fun m => cf 314 (vc m V.nil) c fun n o => neqS n (V.s 0 0) fun p => eqT idB i p fun q => cf 204 (vc b.c0.c0 (vc q (vc (wI 6) V.nil))) o fun r s => lda 5 b.c0.c1 s fun t => cf 262 (vc b.c0.c0 (vc t V.nil)) s fun u v => fadV 0 b.c0.c2 fun w => ld1 w v fun y => cf 314 (vc y V.nil) v fun a0 b0 => cf 203 (vc b.c0.c0 (vc a (vc a0 V.nil))) b0 fun c0 d0 => d X.n b d0
def F260_2 : M := fun a b c => lda 5 a.c0.c1 b fun d => lda 2 a.c0.c2 b fun g => cf 313 (vc a.c0.c0 (vc d (vc g V.nil))) b fun i j => resv 0 j fun m n => nilckV a.c0.c0 fun o => fadV 0 o fun p => ld1 p n fun q => fadV 4 a.c0.c1 fun r => ld1 r n fun s => cf 151 (vc q (vc s V.nil)) n fun t u => F260_1 cf t a u c
def F260_3 (a b c : V) : M := fun d g i => resv 1 g fun j m => newA j false 5 107 a m fun n o => sl1 n d fun p => resv 1 o fun q r => fadV 1 n fun s => ld1 s r fun t => nilckV b fun u => fadV 1 u fun v => ld1 v r fun w => cf 312 (vc c (vc t (vc w V.nil))) r fun y a0 => ext 0 y fun b0 => ext 1 y fun c0 => newA (Nat.add q 0) false 2 383 (V.x .agg (vc (V.s 0 0) (vc vN V.nil)) V.nil) a0 fun d0 g0 => sl2 d0 p fun i0 => st false 2 d0 b0 g0 fun j0 m0 => seqM (F260_0 cf b c0) (F260_2 cf) i0 m0 i
def T260 (cf : CallF) (lf : Nat) : V → H → KV → Bool := fun l h k => onCons l fun a b => onCons b fun c d => onCons d fun g i => onNil i ((F260_3 cf c a g) (⟨⟨a, V.u, V.u, V.u, V.u, V.u, V.u, V.u⟩, n8 V.u, n8 V.u, n8 V.u, n8 V.u, n8 V.u, n8 V.u, n8 V.u⟩ : L8) h fun x e h => finK (fun e h k => k (V.x .tup V.nil V.nil)) k x e h)
theorem e260 : FnEq Tryz.prog G LF OF 260 T260 := fun cf lf => by kernel_rfl
theorem c260 : chkF Tryz.prog LF OF 260 = true := by kernel_rfl
def F261_0 (a : V) (b : H) (c d : V) (g : KX) (i : L8) := nilckV a fun j => fadV 4 j fun m => ld1 m b fun n => resv 1 b fun o p => part 0 true 1 c (vc (wI 0) V.nil) fun q => bslA o 1 1 3 q p fun r s => app 1 3 n r s fun t u => nilckV a fun v => fadV 4 v fun w => st true 1 w t u fun y a0 => resv 0 a0 fun b0 c0 => nilckV a fun d0 => fadV 0 d0 fun g0 => ld1 g0 c0 fun i0 => nilckV a fun j0 => fadV 0 j0 fun m0 => ld1 m0 c0 fun n0 => iadV 5 n0 c fun o0 => fadV 4 o0 fun p0 => ld1 p0 c0 fun q0 => cf 151 (vc i0 (vc q0 V.nil)) c0 fun r0 s0 => cf 203 (vc a (vc r0 (vc d V.nil))) s0 fun t0 u0 => g X.n i u0
def F261_1 (a : V) (b : H) (c d : V) (g : KX) (i : L8) := nilckV a fun j => fadV 5 j fun m => ld1 m b fun n => eqlW n (wI 0) fun o => guardT o b (fun p => p a b) fun q r => guardT o r (fun s => nilckV q fun t => s t r) fun u v => guardT o v (fun w => fadV 4 u fun y => w y v) fun a0 b0 => guardT o b0 (fun c0 => ld1 a0 b0 fun d0 => c0 d0 b0) fun g0 i0 => guardT o i0 (fun j0 => j0 c i0) fun m0 n0 => guardT o n0 (fun o0 => cf 206 (vc g0 (vc m0 V.nil)) n0 fun p0 q0 => o0 p0 q0) fun r0 s0 => guardT o s0 (fun t0 => notV r0 fun u0 => t0 u0 s0) fun v0 w0 => pickV o v0 (V.t false) fun y0 => condV y0 (F261_0 cf a w0 c d g i) (g X.n i w0)
def F261_2 (a : H) (b c d : V) (g : KX) (i : L8) := resv 0 a fun j m => nilckV b fun n => fadV 0 n fun o => ld1 o m fun p => fadV 1 c fun q => ld1 q m fun r => cf 257 (vc p (vc r V.nil)) m fun s t => nilckV b fun u => fadV 0 u fun v => ld1 v t fun w => iadV 5 w s fun y => fadV 2 y fun a0 => ld1 a0 t fun b0 => eqlS b0 d fun c0 => cf 204 (vc b (vc c0 (vc (wI 6) V.nil))) t fun d0 g0 => lda 5 c g0 fun i0 => cf 262 (vc b (vc i0 V.nil)) g0 fun j0 m0 => F261_1 cf b m0 s d g i
def F261_3 (a b c : V) : M := fun d g i => resv 1 g fun j m => newA j false 5 107 a m fun n o => F261_2 cf o b n c i d
def T261 (cf : CallF) (lf : Nat) : V → H → KV → Bool := fun l h k => onCons l fun a b => onCons b fun c d => onCons d fun g i => onNil i ((F261_3 cf c a g) (⟨n8 V.u, n8 V.u, n8 V.u, n8 V.u, n8 V.u, n8 V.u, n8 V.u, n8 V.u⟩ : L8) h fun x e h => finK (fun e h k => k (V.x .tup V.nil V.nil)) k x e h)
theorem e261 : FnEq Tryz.prog G LF OF 261 T261 := fun cf lf => by kernel_rfl
theorem c261 : chkF Tryz.prog LF OF 261 = true := by kernel_rfl
def F262_0 (a : V) : M := fun b c d => condV a (d X.n b c) (d (X.x 0) b c)
def F262_1 (a : V) (b : H) (c d g i : V) (j : KX) (m : L8) := guardF a b (fun n => ld1 c b fun o => n o b) fun p q => guardF a q (fun r => eqlS p (V.s 7 28539428140183145) fun s => r s q) fun t u => guardF d u (fun v => pickV a (V.t true) t fun w => v w u) fun y a0 => guardF d a0 (fun b0 => b0 y a0) fun c0 d0 => guardT c0 d0 (fun g0 => fadV 4 g fun i0 => g0 i0 d0) fun j0 m0 => guardT c0 m0 (fun n0 => ld1 j0 m0 fun o0 => n0 o0 m0) fun p0 q0 => guardT c0 q0 (fun r0 => lenL p0 fun s0 => r0 s0 q0) fun t0 u0 => guardT c0 u0 (fun v0 => eqlW t0 (wI 1) fun w0 => v0 w0 u0) fun y0 a1 => guardF d a1 (fun b1 => pickV c0 y0 (V.t false) fun c1 => b1 c1 a1) fun d1 g1 => guardF d g1 (fun i1 => cf 204 (vc i (vc d1 (vc (wI 6) V.nil))) g1 fun j1 m1 => i1 j1 m1) fun n1 o1 => guardF d o1 (fun p1 => notV n1 fun q1 => p1 q1 o1) fun r1 s1 => pickV d (V.t true) r1 fun t1 => condV t1 (j (X.x 1) m s1) (j X.n m s1)
def F262_2 (a : V) : M := fun b c d => fadV 0 a fun g => ld1 g c fun i => neqW i (wI 6) fun j => guardF j c (fun m => m b.c0.c3 c) fun n o => guardF j o (fun p => fadV 1 a fun q => p q o) fun r s => guardF j s (fun t => ld1 r s fun u => t u s) fun v w => guardF j w (fun y => eqlS v (V.s 4 1885956979) fun a0 => y a0 w) fun b0 c0 => guardF j c0 (fun d0 => d0 b0 c0) fun g0 i0 => guardF g0 i0 (fun j0 => fadV 1 a fun m0 => j0 m0 i0) fun n0 o0 => F262_1 cf g0 o0 n0 j a n d b
def F262_3 (a : V) (b : H) (c : L8) (d : KX) := fadV 1 a fun g => ld1 g b fun i => eqlS i (V.s 2 26217) fun j => cf 204 (vc c.c0.c3 (vc j (vc (wI 6) V.nil))) b fun m n => condV m (resv 0 n fun o p => nilckV c.c0.c3 fun q => fadV 0 q fun r => ld1 r p fun s => fadV 4 a fun t => ld1 t p fun u => iadV 1 u (wI 0) fun v => ld1 v p fun w => iadV 5 s w fun y => lda 5 y p fun a0 => cf 315 (vc c.c0.c3 (vc a0 (vc (V.s 7 31069335677005634) V.nil))) p fun b0 c0 => d X.n c c0) (d X.n c n)
def F262_4 : M := fun a b c => resv 1 b fun d g => nilckV a.c0.c3 fun i => fadV 0 i fun j => ld1 j g fun m => fadV 4 a.c0.c4 fun n => ld1 n g fun o => iadV 1 o (wI 0) fun p => ld1 p g fun q => iadV 5 m q fun r => lda 5 r g fun s => newA (Nat.add d 0) false 5 107 (V.x .agg (vc (wI 0) (vc (V.s 0 0) (vc (V.s 0 0) (vc (wI 0) (vc vN V.nil))))) V.nil) g fun t u => st false 5 t s u fun v w => F262_3 cf t w a c
def F262_5 : M := fun a b c => iadV 1 a.c0.c2 a.c0.c0 fun d => ld1 d b fun g => nilckV a.c0.c3 fun i => fadV 0 i fun j => ld1 j b fun m => iadV 5 m g fun n => lda 5 n b fun o => resv 1 b fun p q => newA p false 5 107 (V.x .agg (vc (wI 0) (vc (V.s 0 0) (vc (V.s 0 0) (vc (wI 0) (vc vN V.nil))))) V.nil) q fun r s => sl4 r a fun t => st false 5 r o s fun u v => seqM (F262_2 cf r) (F262_4 cf) t v c
def F262_6 : M := fun a b c => addW a.c0.c0 (wI 1) fun d => sl0 d a fun g => c X.n g b
def F262_7 : M := fun a b c => lssW a.c0.c0 a.c0.c1 fun d => seqM (F262_0 d) (seqM (blockM 1 (F262_5 cf)) (F262_6)) a b c
def F262_8 (a : V) : M := fun b c d => resv 1 c fun g i => newA g false 5 107 a i fun j m => fadV 4 j fun n => ld1 n m fun o => sl2 o b fun p => lenL o fun q => sl1 q p fun r => sl0 (wI 0) r fun s => blockM 0 (loopM lf (F262_7 cf)) s m d
def T262 (cf : CallF) (lf : Nat) : V → H → KV → Bool := fun l h k => onCons l fun a b => onCons b fun c d => onNil d ((F262_8 cf lf c) (⟨⟨V.u, V.u, V.u, a, V.u, V.u, V.u, V.u⟩, n8 V.u, n8 V.u, n8 V.u, n8 V.u, n8 V.u, n8 V.u, n8 V.u⟩ : L8) h fun x e h => finK (fun e h k => k (V.x .tup V.nil V.nil)) k x e h)
theorem e262 : FnEq Tryz.prog G LF OF 262 T262 := fun cf lf => by kernel_rfl
theorem c262 : chkF Tryz.prog LF OF 262 = true := by kernel_rfl
def F263_0 (a b : V) : M := fun c d g => sl0 (V.t false) c fun i => cf 309 (vc a (vc b V.nil)) d fun j m => geqV j (wI 0) fun n => sl0 n i fun o => g X.r o m
def T263 (cf : CallF) (lf : Nat) : V → H → KV → Bool := fun l h k => onCons l fun a b => onCons b fun c d => onNil d ((F263_0 cf a c) (⟨n8 V.u, n8 V.u, n8 V.u, n8 V.u, n8 V.u, n8 V.u, n8 V.u, n8 V.u⟩ : L8) h fun x e h => finK (fun e h k => k e.c0.c0) k x e h)
theorem e263 : FnEq Tryz.prog G LF OF 263 T263 := fun cf lf => by kernel_rfl
theorem c263 : chkF Tryz.prog LF OF 263 = true := by kernel_rfl
def F264_0 (a b : V) : M := fun c d g => resv 1 d fun i j => newA i false 5 107 a j fun m n => sl0 (V.t false) c fun o => fadV 1 m fun p => ld1 p n fun q => fadV 1 b fun r => ld1 r n fun s => eqlS q s fun t => sl0 t o fun u => g X.r u n
def T264 (cf : CallF) (lf : Nat) : V → H → KV → Bool := fun l h k => onCons l fun a b => onCons b fun c d => onNil d ((F264_0 a c) (⟨n8 V.u, n8 V.u, n8 V.u, n8 V.u, n8 V.u, n8 V.u, n8 V.u, n8 V.u⟩ : L8) h fun x e h => finK (fun e h k => k e.c0.c0) k x e h)
theorem e264 : FnEq Tryz.prog G LF OF 264 T264 := fun cf lf => by kernel_rfl
theorem c264 : chkF Tryz.prog LF OF 264 = true := by kernel_rfl
def F265_0 (a : V) : M := fun b c d => condV a (d X.n b c) (d (X.x 0) b c)
def F265_1 : M := fun a b c => iadV 1 a.c0.c4 a.c0.c1 fun d => ld1 d b fun g => eqlW a.c0.c3 g fun i => condV i (sl0 a.c0.c1 a fun j => c X.r j b) (c X.n a b)
def F265_2 : M := fun a b c => addW a.c0.c1 (wI 1) fun d => sl1 d a fun g => c X.n g b
def F265_3 : M := fun a b c => lssW a.c0.c1 a.c0.c2 fun d => seqM (F265_0 d) (seqM (blockM 1 (F265_1)) (F265_2)) a b c
def F265_4 (a : V) : M := fun b c d => lenL a fun g => sl2 g b fun i => sl1 (wI 0) i fun j => blockM 0 (loopM lf (F265_3)) j c d
def F265_5 : M := fun a b c => sl0 (V.w 9223372036854775807) a fun d => c X.r d b
def F265_6 (a : V) : M := fun b c d => sl0 (wI 0) b fun g => seqM (F265_4 lf a) (F265_5) g c d
def T265 (cf : CallF) (lf : Nat) : V → H → KV → Bool := fun l h k => onCons l fun a b => onCons b fun c d => onNil d ((F265_6 lf a) (⟨⟨V.u, V.u, V.u, c, a, V.u, V.u, V.u⟩, n8 V.u, n8 V.u, n8 V.u, n8 V.u, n8 V.u, n8 V.u, n8 V.u⟩ : L8) h fun x e h => finK (fun e h k => k e.c0.c0) k x e h)
theorem e265 : FnEq Tryz.prog G LF OF 265 T265 := fun cf lf => by kernel_rfl
theorem c265 : chkF Tryz.prog LF OF 265 = true := by kernel_rfl
def F266_0 (a b : V) : M := fun c d g => lenL a fun i => toI .u64 i fun j => cf 317 (vc j V.nil) d fun m n => cf 316 (vc a (vc (wI 0) (vc i (vc m (vc b V.nil))))) n fun o p => g X.n c p
def T266 (cf : CallF) (lf : Nat) : V → H → KV → Bool := fun l h k => onCons l fun a b => onCons b fun c d => onNil d ((F266_0 cf a c) (⟨n8 V.u, n8 V.u, n8 V.u, n8 V.u, n8 V.u, n8 V.u, n8 V.u, n8 V.u⟩ : L8) h fun x e h => finK (fun e h k => k (V.x .tup V.nil V.nil)) k x e h)
theorem e266 : FnEq Tryz.prog G LF OF 266 T266 := fun cf lf => by kernel_rfl
theorem c266 : chkF Tryz.prog LF OF 266 = true := by kernel_rfl
def F267_0 (a b : V) : M := fun c d g => resv 1 d fun i j => newA i false 4 85 a j fun m n => resv 1 n fun o p => newA o false 4 85 b p fun q r => sl0 (wI 0) c fun s => fadV 0 m fun t => ld1 t r fun u => fadV 0 q fun v => ld1 v r fun w => cf 268 (vc u (vc w V.nil)) r fun y a0 => sl0 y s fun b0 => g X.r b0 a0
def T267 (cf : CallF) (lf : Nat) : V → H → KV → Bool := fun l h k => onCons l fun a b => onCons b fun c d => onNil d ((F267_0 cf a c) (⟨n8 V.u, n8 V.u, n8 V.u, n8 V.u, n8 V.u, n8 V.u, n8 V.u, n8 V.u⟩ : L8) h fun x e h => finK (fun e h k => k e.c0.c0) k x e h)
theorem e267 : FnEq Tryz.prog G LF OF 267 T267 := fun cf lf => by kernel_rfl
theorem c267 : chkF Tryz.prog LF OF 267 = true := by kernel_rfl
def F268_0 (a : V) : M := fun b c d => condV a (sl0 (wI 0) b fun g => d X.r g c) (d X.n b c)
def F268_1 : M := fun a b c => sl0 (V.w 9223372036854775807) a fun d => c X.r d b
def F268_2 (a b : V) : M := fun c d g => condV a (seqM (F268_0 b) (F268_1) c d g) (g X.n c d)
def F268_3 : M := fun a b c => condV a.c0.c1 (sl0 (wI 1) a fun d => c X.r d b) (c X.n a b)
def F268_4 : M := fun a b c => lssV a.c0.c2 a.c0.c3 fun d => condV d (sl0 (V.w 9223372036854775807) a fun g => c X.r g b) (c X.n a b)
def F268_5 : M := fun a b c => gtrV a.c0.c2 a.c0.c3 fun d => condV d (sl0 (wI 1) a fun g => c X.r g b) (c X.n a b)
def F268_6 : M := fun a b c => sl0 (wI 0) a fun d => c X.r d b
def F268_7 (a b : V) : M := fun c d g => sl0 (wI 0) c fun i => cf 318 (vc a V.nil) d fun j m => cf 318 (vc b V.nil) m fun n o => sl1 n i fun p => seqM (F268_2 j n) (seqM (F268_3) (seqM (F268_4) (seqM (F268_5) (F268_6)))) p o g
def T268 (cf : CallF) (lf : Nat) : V → H → KV → Bool := fun l h k => onCons l fun a b => onCons b fun c d => onNil d ((F268_7 cf a c) (⟨⟨V.u, V.u, a, c, V.u, V.u, V.u, V.u⟩, n8 V.u, n8 V.u, n8 V.u, n8 V.u, n8 V.u, n8 V.u, n8 V.u⟩ : L8) h fun x e h => finK (fun e h k => k e.c0.c0) k x e h)
theorem e268 : FnEq Tryz.prog G LF OF 268 T268 := fun cf lf => by kernel_rfl
theorem c268 : chkF Tryz.prog LF OF 268 = true := by kernel_rfl
def F271_0 (a : V) : M := fun b c d => sl0 (V.t false) b fun g => lssV a (mkI .i32 32) fun i => guardF i c (fun j => j a c) fun m n => guardF i n (fun o => gtrV m (mkI .i32 126) fun p => o p n) fun q r => pickV i (V.t true) q fun s => sl0 s g fun t => d X.r t r
def T271 (cf : CallF) (lf : Nat) : V → H → KV → Bool := fun l h k => onCons l fun a b => onNil b ((F271_0 a) (⟨n8 V.u, n8 V.u, n8 V.u, n8 V.u, n8 V.u, n8 V.u, n8 V.u, n8 V.u⟩ : L8) h fun x e h => finK (fun e h k => k e.c0.c0) k x e h)
theorem e271 : FnEq Tryz.prog G LF OF 271 T271 := fun cf lf => by kernel_rfl
theorem c271 : chkF Tryz.prog LF OF 271 = true := by kernel_rfl
def F272_0 (a b : V) : M := fun c d g => sl0 (V.t false) c fun i => cf 319 (vc a (vc b V.nil)) d fun j m => geqV j (wI 0) fun n => sl0 n i fun o => g X.r o m
def T272 (cf : CallF) (lf : Nat) : V → H → KV → Bool := fun l h k => onCons l fun a b => onCons b fun c d => onNil d ((F272_0 cf a c) (⟨n8 V.u, n8 V.u, n8 V.u, n8 V.u, n8 V.u, n8 V.u, n8 V.u, n8 V.u⟩ : L8) h fun x e h => finK (fun e h k => k e.c0.c0) k x e h)
theorem e272 : FnEq Tryz.prog G LF OF 272 T272 := fun cf lf => by kernel_rfl
theorem c272 : chkF Tryz.prog LF OF 272 = true := by kernel_rfl
def F274_0 (a : V) (b : H) (c d g : V) (i : L8) (j : KX) := guardF a b (fun m => ld1 c b fun n => m n b) fun o p => guardF a p (fun q => iadV 1 o (wI 0) fun r => q r p) fun s t => guardF a t (fun u => ld1 s t fun v => u v t) fun w y => guardF a y (fun a0 => iadV 5 d w fun b0 => a0 b0 y) fun c0 d0 => guardF a d0 (fun g0 => fadV 1 c0 fun i0 => g0 i0 d0) fun j0 m0 => guardF a m0 (fun n0 => ld1 j0 m0 fun o0 => n0 o0 m0) fun p0 q0 => guardF a q0 (fun r0 => neqS p0 (V.s 2 26217) fun s0 => r0 s0 q0) fun t0 u0 => pickV a (V.t true) t0 fun v0 => condV v0 (cf 279 (vc g (vc (wI 6) V.nil)) u0 fun w0 y0 => sl0 (V.t false) i fun a1 => j X.r a1 y0) (j X.n i u0)
def F274_1 (a : V) (b : H) (c d g : V) (i : L8) (j : KX) := guardF a b (fun m => ld1 c b fun n => m n b) fun o p => guardF a p (fun q => lenL o fun r => q r p) fun s t => guardF a t (fun u => neqW s (wI 1) fun v => u v t) fun w y => pickV a (V.t true) w fun a0 => guardF a0 y (fun b0 => b0 d y) fun c0 d0 => guardF a0 d0 (fun g0 => nilckV c0 fun i0 => g0 i0 d0) fun j0 m0 => guardF a0 m0 (fun n0 => fadV 0 j0 fun o0 => n0 o0 m0) fun p0 q0 => guardF a0 q0 (fun r0 => ld1 p0 q0 fun s0 => r0 s0 q0) fun t0 u0 => guardF a0 u0 (fun v0 => fadV 4 g fun w0 => v0 w0 u0) fun y0 a1 => F274_0 cf a0 a1 y0 t0 d i j
def F274_2 (a b : V) : M := fun c d g => resv 0 d fun i j => fadV 1 a fun m => ld1 m j fun n => neqS n (V.s 4 1885956979) fun o => guardT o j (fun p => fadV 1 a fun q => p q j) fun r s => guardT o s (fun t => ld1 r s fun u => t u s) fun v w => guardT o w (fun y => neqS v (V.s 7 28539428140183145) fun a0 => y a0 w) fun b0 c0 => pickV o b0 (V.t false) fun d0 => guardF d0 c0 (fun g0 => fadV 4 a fun i0 => g0 i0 c0) fun j0 m0 => F274_1 cf d0 m0 j0 b a c g
def F274_3 (a : V) : M := fun b c d => fadV 1 a fun g => ld1 g c fun i => neqW i (wI 2) fun j => guardT j c (fun m => fadV 1 a fun n => m n c) fun o p => guardT j p (fun q => ld1 o p fun r => q r p) fun s t => guardT j t (fun u => neqW s (wI 3) fun v => u v t) fun w y => pickV j w (V.t false) fun a0 => condV a0 (cf 279 (vc b.c0.c1 (vc (wI 6) V.nil)) y fun b0 c0 => d X.n b c0) (d X.n b y)
def F274_4 : M := fun a b c => fadV 1 a.c0.c3 fun d => ld1 d b fun g => eqlW g (wI 3) fun i => sl0 i a fun j => c X.r j b
def F274_5 (a : H) (b : L8) (c : V) (d : KX) := resv 1 a fun g i => nilckV b.c0.c1 fun j => fadV 0 j fun m => ld1 m i fun n => fadV 4 c fun o => ld1 o i fun p => iadV 1 p (wI 0) fun q => ld1 q i fun r => iadV 5 n r fun s => lda 5 s i fun t => cf 320 (vc b.c0.c1 (vc (V.s 2 26217) (vc t V.nil))) i fun u v => newA (Nat.add g 0) false 4 85 (V.x .agg (vc (V.s 0 0) (vc (wI 0) (vc (wI 0) (vc (V.s 0 0) V.nil)))) V.nil) v fun w y => sl3 w b fun a0 => st false 4 w u y fun b0 c0 => seqM (F274_3 cf w) (F274_4) a0 c0 d
def F274_6 : M := fun a b c => resv 1 b fun d g => nilckV a.c0.c1 fun i => fadV 0 i fun j => ld1 j g fun m => fadV 4 a.c0.c2 fun n => ld1 n g fun o => iadV 1 o (wI 0) fun p => ld1 p g fun q => iadV 5 m q fun r => lda 5 r g fun s => newA (Nat.add d 0) false 5 107 (V.x .agg (vc (wI 0) (vc (V.s 0 0) (vc (V.s 0 0) (vc (wI 0) (vc vN V.nil))))) V.nil) g fun t u => st false 5 t s u fun v w => F274_5 cf w a t c
def F274_7 (a b : V) : M := fun c d g => resv 1 d fun i j => newA i false 5 107 a j fun m n => sl2 m c fun o => sl0 (V.t false) o fun p => seqM (F274_2 cf m b) (F274_6 cf) p n g
def T274 (cf : CallF) (lf : Nat) : V → H → KV → Bool := fun l h k => onCons l fun a b => onCons b fun c d => onNil d ((F274_7 cf c a) (⟨⟨V.u, a, V.u, V.u, V.u, V.u, V.u, V.u⟩, n8 V.u, n8 V.u, n8 V.u, n8 V.u, n8 V.u, n8 V.u, n8 V.u⟩ : L8) h fun x e h => finK (fun e h k => k e.c0.c0) k x e h)
theorem e274 : FnEq Tryz.prog G LF OF 274 T274 := fun cf lf => by kernel_rfl
theorem c274 : chkF Tryz.prog LF OF 274 = true := by kernel_rfl
def F275_0 (a : V) : M := fun b c d => condV a (d X.n b c) (d (X.x 0) b c)
def F275_1 (a : V) : M := fun b c d => fadV 0 a fun g => ld1 g c fun i => neqW i (wI 5) fun j => condV j (d (X.x 0) b c) (d X.n b c)
def F275_2 : M := fun a b c => fadV 1 a.c0.c5 fun d => ld1 d b fun g => cf 153 (vc a.c0.c0 (vc g V.nil)) b fun i j => ext 0 i fun m => ext 1 i fun n => resv 1 j fun o p => newA o false 4 85 (V.x .agg (vc (V.s 0 0) (vc (wI 0) (vc (wI 0) (vc (V.s 0 0) V.nil)))) V.nil) p fun q r => st false 4 q m r fun s t => condV n (cf 279 (vc a.c0.c4 (vc (wI 5) V.nil)) t fun u v => c X.n a v) (c X.n a t)
def F275_3 : M := fun a b c => resv 1 b fun d g => fadV 1 a.c0.c5 fun i => ld1 i g fun j => nilckV a.c0.c4 fun m => fadV 0 m fun n => ld1 n g fun o => fadV 4 a.c0.c5 fun p => ld1 p g fun q => iadV 1 q (wI 0) fun r => ld1 r g fun s => iadV 5 o s fun t => lda 5 t g fun u => cf 320 (vc a.c0.c4 (vc j (vc u V.nil))) g fun v w => part 0 false 4 v (vc (V.s 0 0) (vc (wI 0) (vc (wI 0) (vc (V.s 0 0) V.nil)))) fun y => bslA (Nat.add d 0) 1 4 85 y w fun a0 b0 => app 4 85 a.c0.c0 a0 b0 fun c0 d0 => sl0 c0 a fun g0 => c X.n g0 d0
def F275_4 (a : L8) (b : H) (c : V) (d : KX) := nilckV a.c0.c4 fun g => fadV 0 g fun i => ld1 i b fun j => iadV 5 j c fun m => lda 5 m b fun n => resv 1 b fun o p => newA o false 5 107 (V.x .agg (vc (wI 0) (vc (V.s 0 0) (vc (V.s 0 0) (vc (wI 0) (vc vN V.nil))))) V.nil) p fun q r => sl5 q a fun s => st false 5 q n r fun t u => seqM (F275_1 q) (seqM (F275_2 cf) (F275_3 cf)) s u d
def F275_5 : M := fun a b c => iadV 1 a.c0.c3 a.c0.c1 fun d => ld1 d b fun g => F275_4 cf a b g c
def F275_6 : M := fun a b c => addW a.c0.c1 (wI 1) fun d => sl1 d a fun g => c X.n g b
def F275_7 : M := fun a b c => lssW a.c0.c1 a.c0.c2 fun d => seqM (F275_0 d) (seqM (blockM 1 (F275_5 cf)) (F275_6)) a b c
def F275_8 (a : V) : M := fun b c d => fadV 4 a fun g => ld1 g c fun i => sl3 i b fun j => lenL i fun m => sl2 m j fun n => sl1 (wI 0) n fun o => blockM 0 (loopM lf (F275_7 cf)) o c d
def F275_9 : M := fun a b c => lenL a.c0.c0 fun d => gtrW d (wI 6) fun g => condV g (cf 279 (vc a.c0.c4 (vc (wI 2) V.nil)) b fun i j => c X.n a j) (c X.n a b)
def F275_10 : M := fun a b c => cf 208 (vc a.c0.c0 V.nil) b fun d g => sl0 a.c0.c0 a fun i => c X.r i g
def F275_11 (a : V) : M := fun b c d => resv 1 c fun g i => newA g false 5 107 a i fun j m => sl0 vN b fun n => seqM (F275_8 cf lf j) (seqM (F275_9 cf) (F275_10 cf)) n m d
def T275 (cf : CallF) (lf : Nat) : V → H → KV → Bool := fun l h k => onCons l fun a b => onCons b fun c d => onNil d ((F275_11 cf lf c) (⟨⟨V.u, V.u, V.u, V.u, a, V.u, V.u, V.u⟩, n8 V.u, n8 V.u, n8 V.u, n8 V.u, n8 V.u, n8 V.u, n8 V.u⟩ : L8) h fun x e h => finK (fun e h k => k e.c0.c0) k x e h)
theorem e275 : FnEq Tryz.prog G LF OF 275 T275 := fun cf lf => by kernel_rfl
theorem c275 : chkF Tryz.prog LF OF 275 = true := by kernel_rfl
def F276_0 (a : V) : M := fun b c d => condV a (d X.n b c) (d (X.x 0) b c)
def F276_1 : M := fun a b c => iadV 4 a.c0.c4 a.c0.c1 fun d => lda 4 d b fun g => callV cf a.c0.c3 (vc g V.nil) b fun i j => condV i (sl0 a.c0.c1 a fun m => c X.r m j) (c X.n a j)
def F276_2 : M := fun a b c => addW a.c0.c1 (wI 1) fun d => sl1 d a fun g => c X.n g b
def F276_3 : M := fun a b c => lssW a.c0.c1 a.c0.c2 fun d => seqM (F276_0 d) (seqM (blockM 1 (F276_1 cf)) (F276_2)) a b c
def F276_4 (a : V) : M := fun b c d => lenL a fun g => sl2 g b fun i => sl1 (wI 0) i fun j => blockM 0 (loopM lf (F276_3 cf)) j c d
def F276_5 : M := fun a b c => sl0 (V.w 9223372036854775807) a fun d => c X.r d b
def F276_6 (a : V) : M := fun b c d => sl0 (wI 0) b fun g => seqM (F276_4 cf lf a) (F276_5) g c d
def T276 (cf : CallF) (lf : Nat) : V → H → KV → Bool := fun l h k => onCons l fun a b => onCons b fun c d => onNil d ((F276_6 cf lf a) (⟨⟨V.u, V.u, V.u, c, a, V.u, V.u, V.u⟩, n8 V.u, n8 V.u, n8 V.u, n8 V.u, n8 V.u, n8 V.u, n8 V.u⟩ : L8) h fun x e h => finK (fun e h k => k e.c0.c0) k x e h)
theorem e276 : FnEq Tryz.prog G LF OF 276 T276 := fun cf lf => by kernel_rfl
theorem c276 : chkF Tryz.prog LF OF 276 = true := by kernel_rfl
def F277_0 (a b : V) : M := fun c d g => resv 1 d fun i j => newA i false 4 128 a j fun m n => sl0 (V.t false) c fun o => fadV 0 m fun p => ld1 p n fun q => fadV 0 b fun r => ld1 r n fun s => eqlS q s fun t => sl0 t o fun u => g X.r u n
def T277 (cf : CallF) (lf : Nat) : V → H → KV → Bool := fun l h k => onCons l fun a b => onCons b fun c d => onNil d ((F277_0 a c) (⟨n8 V.u, n8 V.u, n8 V.u, n8 V.u, n8 V.u, n8 V.u, n8 V.u, n8 V.u⟩ : L8) h fun x e h => finK (fun e h k => k e.c0.c0) k x e h)
theorem e277 : FnEq Tryz.prog G LF OF 277 T277 := fun cf lf => by kernel_rfl
theorem c277 : chkF Tryz.prog LF OF 277 = true := by kernel_rfl
def F278_0 (a b : V) : M := fun c d g => lenL a fun i => lenL b fun j => neqW i j fun m => condV m (sl0 (V.t false) c fun n => g X.r n d) (g X.n c d)
def F278_1 (a : V) : M := fun b c d => condV a (d X.n b c) (d (X.x 0) b c)
def F278_2 : M := fun a b c => resv 0 b fun d g => iadV 4 a.c0.c1 a.c0.c2 fun i => lda 4 i g fun j => iadV 4 a.c0.c4 a.c0.c2 fun m => lda 4 m g fun n => eqAg [1, 0, 0, 1] nots j n fun o => condV o (sl0 (V.t false) a fun p => c X.r p g) (c X.n a g)
def F278_3 : M := fun a b c => addW a.c0.c2 (wI 1) fun d => sl2 d a fun g => c X.n g b
def F278_4 : M := fun a b c => lssW a.c0.c2 a.c0.c3 fun d => seqM (F278_1 d) (seqM (blockM 1 (F278_2)) (F278_3)) a b c
def F278_5 : M := fun a b c => lenL a.c0.c1 fun d => sl3 d a fun g => sl2 (wI 0) g fun i => blockM 0 (loopM lf (F278_4)) i b c
def F278_6 : M := fun a b c => sl0 (V.t true) a fun d => c X.r d b
def F278_7 (a b : V) : M := fun c d g => sl0 (V.t false) c fun i => seqM (F278_0 a b) (seqM (F278_5 lf) (F278_6)) i d g
def T278 (cf : CallF) (lf : Nat) : V → H → KV → Bool := fun l h k => onCons l fun a b => onCons b fun c d => onNil d ((F278_7 lf a c) (⟨⟨V.u, a, V.u, V.u, c, V.u, V.u, V.u⟩, n8 V.u, n8 V.u, n8 V.u, n8 V.u, n8 V.u, n8 V.u, n8 V.u⟩ : L8) h fun x e h => finK (fun e h k => k e.c0.c0) k x e h)
theorem e278 : FnEq Tryz.prog G LF OF 278 T278 := fun cf lf => by kernel_rfl
theorem c278 : chkF Tryz.prog LF OF 278 = true := by kernel_rfl
def F279_0 (a b : V) : M := fun c d g => nilckV a fun i => fadV 5 i fun j => ld1 j d fun m => eqlW m (wI 0) fun n => condV n (nilckV a fun o => fadV 5 o fun p => st true 1 p b d fun q r => g X.n c r) (g X.n c d)
def T279 (cf : CallF) (lf : Nat) : V → H → KV → Bool := fun l h k => onCons l fun a b => onCons b fun c d => onNil d ((F279_0 a c) (⟨n8 V.u, n8 V.u, n8 V.u, n8 V.u, n8 V.u, n8 V.u, n8 V.u, n8 V.u⟩ : L8) h fun x e h => finK (fun e h k => k (V.x .tup V.nil V.nil)) k x e h)
theorem e279 : FnEq Tryz.prog G LF OF 279 T279 := fun cf lf => by kernel_rfl
theorem c279 : chkF Tryz.prog LF OF 279 = true := by kernel_rfl
def F282_0 (a : V) : M := fun b c d => cf 125 (vc a V.nil) c fun g i => notV g fun j => guardF j i (fun m => m a i) fun n o => guardF j o (fun p => sidxV n (wI 0) fun q => p q o) fun r s => guardF j s (fun t => neqY r (V.y 45) fun u => t u s) fun v w => guardF j w (fun y => y v w) fun a0 b0 => guardT a0 b0 (fun c0 => c0 a b0) fun d0 g0 => guardT a0 g0 (fun i0 => sidxV d0 (wI 0) fun j0 => i0 j0 g0) fun m0 n0 => guardT a0 n0 (fun o0 => cf 133 (vc m0 V.nil) n0 fun p0 q0 => o0 p0 q0) fun r0 s0 => guardT a0 s0 (fun t0 => notV r0 fun u0 => t0 u0 s0) fun v0 w0 => guardF j w0 (fun y0 => pickV a0 v0 (V.t false) fun a1 => y0 a1 w0) fun b1 c1 => pickV j (V.t true) b1 fun d1 => condV d1 (sl0 (wI 0) b fun g1 => sl1 (V.t false) g1 fun i1 => d X.r i1 c1) (d X.n b c1)
def F282_1 : M := fun a b c => cf 134 (vc a.c0.c2 V.nil) b fun d g => ext 0 d fun i => ext 1 d fun j => sl0 i a fun m => sl1 j m fun n => c X.r n g
def F282_2 (a : V) : M := fun b c d => sl0 (wI 0) b fun g => sl1 (V.t false) g fun i => seqM (F282_0 cf a) (F282_1 cf) i c d
def T282 (cf : CallF) (lf : Nat) : V → H → KV → Bool := fun l h k => onCons l fun a b => onNil b ((F282_2 cf a) (⟨⟨V.u, V.u, a, V.u, V.u, V.u, V.u, V.u⟩, n8 V.u, n8 V.u, n8 V.u, n8 V.u, n8 V.u, n8 V.u, n8 V.u⟩ : L8) h fun x e h => finK (fun e h k => k (V.x .tup (vc e.c0.c0 (vc e.c0.c1 V.nil)) V.nil)) k x e h)
theorem e282 : FnEq Tryz.prog G LF OF 282 T282 := fun cf lf => by kernel_rfl
theorem c282 : chkF Tryz.prog LF OF 282 = true := by kernel_rfl
def F283_0 (a : V) : M := fun b c d => cf 125 (vc a V.nil) c fun g i => notV g fun j => guardF j i (fun m => m a i) fun n o => guardF j o (fun p => sidxV n (wI 0) fun q => p q o) fun r s => guardF j s (fun t => neqY r (V.y 34) fun u => t u s) fun v w => pickV j (V.t true) v fun y => condV y (sl0 (V.s 0 0) b fun a0 => sl1 (V.t false) a0 fun b0 => d X.r b0 w) (d X.n b w)
def F283_1 : M := fun a b c => cf 135 (vc a.c0.c2 V.nil) b fun d g => ext 0 d fun i => ext 1 d fun j => sl0 j a fun m => sl1 (V.t true) m fun n => c X.r n g
def F283_2 (a : V) : M := fun b c d => sl0 (V.s 0 0) b fun g => sl1 (V.t false) g fun i => seqM (F283_0 cf a) (F283_1 cf) i c d
def T283 (cf : CallF) (lf : Nat) : V → H → KV → Bool := fun l h k => onCons l fun a b => onNil b ((F283_2 cf a) (⟨⟨V.u, V.u, a, V.u, V.u, V.u, V.u, V.u⟩, n8 V.u, n8 V.u, n8 V.u, n8 V.u, n8 V.u, n8 V.u, n8 V.u⟩ : L8) h fun x e h => finK (fun e h k => k (V.x .tup (vc e.c0.c0 (vc e.c0.c1 V.nil)) V.nil)) k x e h)
theorem e283 : FnEq Tryz.prog G LF OF 283 T283 := fun cf lf => by kernel_rfl
theorem c283 : chkF Tryz.prog LF OF 283 = true := by kernel_rfl
def F284_0 (a : V) (b : H) (c : L8) (d g : V) (i : KX) := guardT a b (fun j => j c.c0.c1 b) fun m n => guardT a n (fun o => iadV 1 d m fun p => o p n) fun q r => guardT a r (fun s => ld1 q r fun t => s t r) fun u v => guardT a v (fun w => iadV 5 g u fun y => w y v) fun a0 b0 => guardT a b0 (fun c0 => fadV 0 a0 fun d0 => c0 d0 b0) fun g0 i0 => guardT a i0 (fun j0 => ld1 g0 i0 fun m0 => j0 m0 i0) fun n0 o0 => guardT a o0 (fun p0 => p0 c.c0.c4 o0) fun q0 r0 => guardT a r0 (fun s0 => eqlW n0 q0 fun t0 => s0 t0 r0) fun u0 v0 => pickV a u0 (V.t false) fun w0 => condV w0 (i X.n c v0) (i (X.x 0) c v0)
def F284_1 : M := fun a b c => resv 0 b fun d g => lenL a.c0.c2 fun i => lssW a.c0.c1 i fun j => guardT j g (fun m => m a.c0.c3 g) fun n o => guardT j o (fun p => nilckV n fun q => p q o) fun r s => guardT j s (fun t => fadV 0 r fun u => t u s) fun v w => guardT j w (fun y => ld1 v w fun a0 => y a0 w) fun b0 c0 => guardT j c0 (fun d0 => d0 a.c0.c2 c0) fun g0 i0 => F284_0 j i0 a g0 b0 c
def F284_2 : M := fun a b c => addW a.c0.c1 (wI 1) fun d => sl1 d a fun g => c X.n g b
def F284_3 : M := fun a b c => sl0 a.c0.c1 a fun d => c X.r d b
def F284_4 : M := fun a b c => sl0 (wI 0) a fun d => sl1 (wI 0) d fun g => seqM (blockM 0 (loopM lf (seqM (F284_1) (blockM 1 (F284_2))))) (F284_3) g b c
def T284 (cf : CallF) (lf : Nat) : V → H → KV → Bool := fun l h k => onCons l fun a b => onCons b fun c d => onCons d fun g i => onNil i ((F284_4 lf) (⟨⟨V.u, V.u, c, a, g, V.u, V.u, V.u⟩, n8 V.u, n8 V.u, n8 V.u, n8 V.u, n8 V.u, n8 V.u, n8 V.u⟩ : L8) h fun x e h => finK (fun e h k => k e.c0.c0) k x e h)
theorem e284 : FnEq Tryz.prog G LF OF 284 T284 := fun cf lf => by kernel_rfl
theorem c284 : chkF Tryz.prog LF OF 284 = true := by kernel_rfl
def F285_0 (a b c d : V) : M := fun g i j => lenL a fun m => gtrW m (wI 0) fun n => condV n (resv 1 i fun o p => part 0 true 1 b (vc (V.s 0 0) V.nil) fun q => bslA o 1 1 9 q p fun r s => cf 241 (vc c (vc r V.nil)) s fun t u => cf 239 (vc c (vc a V.nil)) u fun v w => resv 1 w fun y a0 => part 0 true 1 d (vc (V.s 0 0) V.nil) fun b0 => bslA y 1 1 9 b0 a0 fun c0 d0 => cf 241 (vc c (vc c0 V.nil)) d0 fun g0 i0 => j X.n g i0) (j X.n g i)
def T285 (cf : CallF) (lf : Nat) : V → H → KV → Bool := fun l h k => onCons l fun a b => onCons b fun c d => onCons d fun g i => onCons i fun j m => onNil m ((F285_0 cf c g a j) (⟨n8 V.u, n8 V.u, n8 V.u, n8 V.u, n8 V.u, n8 V.u, n8 V.u, n8 V.u⟩ : L8) h fun x e h => finK (fun e h k => k (V.x .tup V.nil V.nil)) k x e h)
theorem e285 : FnEq Tryz.prog G LF OF 285 T285 := fun cf lf => by kernel_rfl
theorem c285 : chkF Tryz.prog LF OF 285 = true := by kernel_rfl
def F286_0 (a b : V) : M := fun c d g => cf 284 (vc a (vc b (vc (wI 6) V.nil))) d fun i j => ssli 1 none (some i) b fun m => cf 239 (vc a (vc m V.nil)) j fun n o => ssli 1 (some i) none b fun p => cf 285 (vc a (vc p (vc (V.s 1 123) (vc (V.s 1 125) V.nil)))) o fun q r => g X.n c r
def T286 (cf : CallF) (lf : Nat) : V → H → KV → Bool := fun l h k => onCons l fun a b => onCons b fun c d => onNil d ((F286_0 cf a c) (⟨n8 V.u, n8 V.u, n8 V.u, n8 V.u, n8 V.u, n8 V.u, n8 V.u, n8 V.u⟩ : L8) h fun x e h => finK (fun e h k => k (V.x .tup V.nil V.nil)) k x e h)
theorem e286 : FnEq Tryz.prog G LF OF 286 T286 := fun cf lf => by kernel_rfl
theorem c286 : chkF Tryz.prog LF OF 286 = true := by kernel_rfl
def F288_0 (a : V) : M := fun b c d => cf 173 (vc a V.nil) c fun g i => notV g fun j => condV j (sl0 (V.s 0 0) b fun m => sl1 (wI 1) m fun n => d X.r n i) (d X.n b i)
def F288_1 : M := fun a b c => cf 322 (vc a.c0.c2 V.nil) b fun d g => sl0 d a fun i => sl1 (wI 0) i fun j => c X.r j g
def F288_2 (a : V) : M := fun b c d => sl0 (V.s 0 0) b fun g => sl1 (wI 0) g fun i => seqM (F288_0 cf a) (F288_1 cf) i c d
def T288 (cf : CallF) (lf : Nat) : V → H → KV → Bool := fun l h k => onCons l fun a b => onNil b ((F288_2 cf a) (⟨⟨V.u, V.u, a, V.u, V.u, V.u, V.u, V.u⟩, n8 V.u, n8 V.u, n8 V.u, n8 V.u, n8 V.u, n8 V.u, n8 V.u⟩ : L8) h fun x e h => finK (fun e h k => k (V.x .tup (vc e.c0.c0 (vc e.c0.c1 V.nil)) V.nil)) k x e h)
theorem e288 : FnEq Tryz.prog G LF OF 288 T288 := fun cf lf => by kernel_rfl
theorem c288 : chkF Tryz.prog LF OF 288 = true := by kernel_rfl
def F289_0 (a : V) : M := fun b c d => nilckV a fun g => fadV 0 g fun i => ld1 i c fun j => eqPt idB j (V.x .pnil V.nil V.nil) fun m => condV m (cvU a c fun n => cf 323 (vc n V.nil) c fun o p => cvP 315 2 o p fun q => nilckV a fun r => fadV 0 r fun s => st true 1 s q p fun t u => d X.n b u) (nilckV a fun v => fadV 0 v fun w => ld1 w c fun y => eqPt nots y a fun a0 => condV a0 (false) (d X.n b c))
def T289 (cf : CallF) (lf : Nat) : V → H → KV → Bool := fun l h k => onCons l fun a b => onNil b ((F289_0 cf a) (⟨n8 V.u, n8 V.u, n8 V.u, n8 V.u, n8 V.u, n8 V.u, n8 V.u, n8 V.u⟩ : L8) h fun x e h => finK (fun e h k => k (V.x .tup V.nil V.nil)) k x e h)
theorem e289 : FnEq Tryz.prog G LF OF 289 T289 := fun cf lf => by kernel_rfl
theorem c289 : chkF Tryz.prog LF OF 289 = true := by kernel_rfl
def F290_0 (a b : V) : M := fun c d g => resv 0 d fun i j => nilckV a fun m => fadV 1 m fun n => ld1 n j fun o => nilckV a fun p => fadV 1 p fun q => ld1 q j fun r => capL o fun s => mulV (wI 2) s fun t => addW t b fun u => lenL r fun v => cf 324 (vc u V.nil) j fun w y => ld1 q y fun a0 => both (eqV a0 r) (ssli 1 none (some v) w fun b0 => nilckV a fun c0 => fadV 1 c0 fun d0 => ld1 d0 y fun g0 => copL b0 g0 fun i0 => nilckV a fun j0 => fadV 1 j0 fun m0 => st true 1 m0 b0 y fun n0 o0 => g X.n c o0)
def T290 (cf : CallF) (lf : Nat) : V → H → KV → Bool := fun l h k => onCons l fun a b => onCons b fun c d => onNil d ((F290_0 cf a c) (⟨n8 V.u, n8 V.u, n8 V.u, n8 V.u, n8 V.u, n8 V.u, n8 V.u, n8 V.u⟩ : L8) h fun x e h => finK (fun e h k => k (V.x .tup V.nil V.nil)) k x e h)
theorem e290 : FnEq Tryz.prog G LF OF 290 T290 := fun cf lf => by kernel_rfl
theorem c290 : chkF Tryz.prog LF OF 290 = true := by kernel_rfl
def F291_0 (a : V) : M := fun b c d => sidxV a (wI 0) fun g => eqlY g (V.y 35) fun i => condV i (cf 299 (vc a (vc (V.x (.func 325) V.nil V.nil) V.nil)) c fun j m => sl0 j b fun n => d X.r n m) (d X.n b c)
def F291_1 : M := fun a b c => cf 299 (vc a.c0.c1 (vc (V.x (.func 326) V.nil V.nil) V.nil)) b fun d g => sl0 d a fun i => c X.r i g
def F291_2 (a : V) : M := fun b c d => sl0 (wI 0) b fun g => seqM (F291_0 cf a) (F291_1 cf) g c d
def T291 (cf : CallF) (lf : Nat) : V → H → KV → Bool := fun l h k => onCons l fun a b => onNil b ((F291_2 cf a) (⟨⟨V.u, a, V.u, V.u, V.u, V.u, V.u, V.u⟩, n8 V.u, n8 V.u, n8 V.u, n8 V.u, n8 V.u, n8 V.u, n8 V.u⟩ : L8) h fun x e h => finK (fun e h k => k e.c0.c0) k x e h)
theorem e291 : FnEq Tryz.prog G LF OF 291 T291 := fun cf lf => by kernel_rfl
theorem c291 : chkF Tryz.prog LF OF 291 = true := by kernel_rfl
def F296_0 (a : V) : M := fun b c d => eqlS a (V.s 5 521610294641) fun g => sl2 g b fun i => condV g (d X.n i c) (eqlS a (V.s 8 7957695015159100781) fun j => sl2 j i fun m => d X.n m c)
def F296_1 : M := fun a b c => condV a.c0.c2 (cf 331 (vc a.c0.c3 V.nil) b fun d g => ext 0 d fun i => ext 1 d fun j => sl0 i a fun m => sl1 j m fun n => c X.r n g) (eqlS a.c0.c4 (V.s 8 8389754676398092902) fun o => condV o (cf 332 (vc a.c0.c3 V.nil) b fun p q => ext 0 p fun r => ext 1 p fun s => sl0 r a fun t => sl1 s t fun u => c X.r u q) (c X.n a b))
def F296_2 (a : V) : M := fun b c d => cf 330 (vc a V.nil) c fun g i => sl4 g b fun j => blockM 0 (seqM (F296_0 g) (F296_1 cf)) j i d
def F296_3 : M := fun a b c => cf 333 (vc a.c0.c3 V.nil) b fun d g => ext 0 d fun i => ext 1 d fun j => part 0 true 1 (wI 2) (vc (wI 0) (vc (V.s 0 0) (vc (V.s 0 0) (vc (wI 0) (vc vN V.nil))))) fun m => part 4 true 1 i m fun n => cf 298 (vc a.c0.c3 (vc (V.x .agg n V.nil) (vc j V.nil))) g fun o p => ext 0 o fun q => ext 1 o fun r => sl0 q a fun s => sl1 r s fun t => c X.r t p
def F296_4 (a : V) : M := fun b c d => sl0 (wI 0) b fun g => sl1 (V.x .inil V.nil V.nil) g fun i => seqM (F296_2 cf a) (F296_3 cf) i c d
def T296 (cf : CallF) (lf : Nat) : V → H → KV → Bool := fun l h k => onCons l fun a b => onNil b ((F296_4 cf a) (⟨⟨V.u, V.u, V.u, a, V.u, V.u, V.u, V.u⟩, n8 V.u, n8 V.u, n8 V.u, n8 V.u, n8 V.u, n8 V.u, n8 V.u⟩ : L8) h fun x e h => finK (fun e h k => k (V.x .tup (vc e.c0.c0 (vc e.c0.c1 V.nil)) V.nil)) k x e h)
theorem e296 : FnEq Tryz.prog G LF OF 296 T296 := fun cf lf => by kernel_rfl
theorem c296 : chkF Tryz.prog LF OF 296 = true := by kernel_rfl
def F297_0 (a : V) : M := fun b c d => eqN nilI idB a (V.x .inil V.nil V.nil) fun g => condV g (sl0 (V.x .inil V.nil V.nil) b fun i => d X.r i c) (d X.n b c)
def F297_1 : M := fun a b c => part 0 true 1 a.c0.c1 (vc (V.s 0 0) (vc (V.x .inil V.nil V.nil) V.nil)) fun d => part 1 true 1 a.c0.c2 d fun g => resv 1 b fun i j => newA i false 2 410 (V.x .agg g V.nil) j fun m n => sl0 (V.x (.iface 408) m V.nil) a fun o => c X.r o n
def F297_2 (a : V) : M := fun b c d => sl0 (V.x .inil V.nil V.nil) b fun g => seqM (F297_0 a) (F297_1) g c d
def T297 (cf : CallF) (lf : Nat) : V → H → KV → Bool := fun l h k => onCons l fun a b => onCons b fun c d => onNil d ((F297_2 c) (⟨⟨V.u, a, c, V.u, V.u, V.u, V.u, V.u⟩, n8 V.u, n8 V.u, n8 V.u, n8 V.u, n8 V.u, n8 V.u, n8 V.u⟩ : L8) h fun x e h => finK (fun e h k => k e.c0.c0) k x e h)
theorem e297 : FnEq Tryz.prog G LF OF 297 T297 := fun cf lf => by kernel_rfl
theorem c297 : chkF Tryz.prog LF OF 297 = true := by kernel_rfl
def F298_0 (a : V) : M := fun b c d => eqN nilI nots a (V.x .inil V.nil V.nil) fun g => condV g (sl0 (wI 0) b fun i => sl1 a i fun j => d X.r j c) (d X.n b c)
def F298_1 (a : H) (b : L8) (c : KX) := resv 1 a fun d g => nilckV b.c0.c2 fun i => fadV 0 i fun j => ld1 j g fun m => nilckV b.c0.c2 fun n => fadV 1 n fun o => ld1 o g fun p => subW p (wI 1) fun q => iadV 2 m q fun r => fadV 1 r fun s => ld1 s g fun t => part 0 true 1 (wI 2) (vc (wI 0) (vc (wI 0) V.nil)) fun u => part 1 true 1 t u fun v => newA (Nat.add d 0) false 2 330 (V.x .agg v V.nil) g fun w y => sl0 (wI 0) b fun a0 => sl1 (V.x (.iface 325) w V.nil) a0 fun b0 => c X.r b0 y
def F298_2 : M := fun a b c => nilckV a.c0.c2 fun d => fadV 3 d fun g => ld1 g b fun i => lenL i fun j => geqV j (wI 300) fun m => condV m (F298_1 b a c) (c X.n a b)
def F298_3 : M := fun a b c => resv 1 b fun d g => nilckV a.c0.c2 fun i => fadV 3 i fun j => ld1 j g fun m => lda 5 a.c0.c3 g fun n => part 0 false 5 n (vc (wI 0) (vc (V.s 0 0) (vc (V.s 0 0) (vc (wI 0) (vc vN V.nil))))) fun o => bslA (Nat.add d 0) 1 5 107 o g fun p q => app 5 107 m p q fun r s => nilckV a.c0.c2 fun t => fadV 3 t fun u => st true 1 u r s fun v w => nilckV a.c0.c2 fun y => fadV 3 y fun a0 => ld1 a0 w fun b0 => lenL b0 fun c0 => subW c0 (wI 1) fun d0 => sl0 d0 a fun g0 => sl1 (V.x .inil V.nil V.nil) g0 fun i0 => c X.r i0 w
def F298_4 (a b : V) : M := fun c d g => resv 1 d fun i j => newA i false 5 107 a j fun m n => sl3 m c fun o => sl0 (wI 0) o fun p => sl1 (V.x .inil V.nil V.nil) p fun q => seqM (F298_0 b) (seqM (F298_2) (F298_3)) q n g
def T298 (cf : CallF) (lf : Nat) : V → H → KV → Bool := fun l h k => onCons l fun a b => onCons b fun c d => onCons d fun g i => onNil i ((F298_4 c g) (⟨⟨V.u, V.u, a, V.u, V.u, V.u, V.u, V.u⟩, n8 V.u, n8 V.u, n8 V.u, n8 V.u, n8 V.u, n8 V.u, n8 V.u⟩ : L8) h fun x e h => finK (fun e h k => k (V.x .tup (vc e.c0.c0 (vc e.c0.c1 V.nil)) V.nil)) k x e h)
theorem e298 : FnEq Tryz.prog G LF OF 298 T298 := fun cf lf => by kernel_rfl
theorem c298 : chkF Tryz.prog LF OF 298 = true := by kernel_rfl
def F299_0 : M := fun a b c => lenS a.c0.c2 fun d => lssW a.c0.c1 d fun g => guardT g b (fun i => i a.c0.c3 b) fun j m => guardT g m (fun n => n a.c0.c2 m) fun o p => guardT g p (fun q => q a.c0.c1 p) fun r s => guardT g s (fun t => sidxV o r fun u => t u s) fun v w => guardT g w (fun y => callV cf j (vc v V.nil) w fun a0 b0 => y a0 b0) fun c0 d0 => pickV g c0 (V.t false) fun g0 => condV g0 (c X.n a d0) (c (X.x 0) a d0)
def F299_1 : M := fun a b c => addW a.c0.c1 (wI 1) fun d => sl1 d a fun g => c X.n g b
def F299_2 : M := fun a b c => sl0 a.c0.c1 a fun d => c X.r d b
def F299_3 : M := fun a b c => sl0 (wI 0) a fun d => sl1 (wI 0) d fun g => seqM (blockM 0 (loopM lf (seqM (F299_0 cf) (blockM 1 (F299_1))))) (F299_2) g b c
def T299 (cf : CallF) (lf : Nat) : V → H → KV → Bool := fun l h k => onCons l fun a b => onCons b fun c d => onNil d ((F299_3 cf lf) (⟨⟨V.u, V.u, a, c, V.u, V.u, V.u, V.u⟩, n8 V.u, n8 V.u, n8 V.u, n8 V.u, n8 V.u, n8 V.u, n8 V.u⟩ : L8) h fun x e h => finK (fun e h k => k e.c0.c0) k x e h)
theorem e299 : FnEq Tryz.prog G LF OF 299 T299 := fun cf lf => by kernel_rfl
theorem c299 : chkF Tryz.prog LF OF 299 = true := by kernel_rfl
def F300_0 (a : V) : M := fun b c d => sl0 (V.t false) b fun g => cf 191 (vc a V.nil) c fun i j => guardF i j (fun m => m a j) fun n o => guardF i o (fun p => cf 301 (vc n V.nil) o fun q r => p q r) fun s t => pickV i (V.t true) s fun u => sl0 u g fun v => d X.r v t
def T300 (cf : CallF) (lf : Nat) : V → H → KV → Bool := fun l h k => onCons l fun a b => onNil b ((F300_0 cf a) (⟨n8 V.u, n8 V.u, n8 V.u, n8 V.u, n8 V.u, n8 V.u, n8 V.u, n8 V.u⟩ : L8) h fun x e h => finK (fun e h k => k e.c0.c0) k x e h)
theorem e300 : FnEq Tryz.prog G LF OF 300 T300 := fun cf lf => by kernel_rfl
theorem c300 : chkF Tryz.prog LF OF 300 = true := by kernel_rfl
def F301_0 (a : V) : M := fun b c d => sl0 (V.t false) b fun g => geqY a (V.y 48) fun i => guardT i c (fun j => j a c) fun m n => guardT i n (fun o => leqY m (V.y 57) fun p => o p n) fun q r => pickV i q (V.t false) fun s => sl0 s g fun t => d X.r t r
def T301 (cf : CallF) (lf : Nat) : V → H → KV → Bool := fun l h k => onCons l fun a b => onNil b ((F301_0 a) (⟨n8 V.u, n8 V.u, n8 V.u, n8 V.u, n8 V.u, n8 V.u, n8 V.u, n8 V.u⟩ : L8) h fun x e h => finK (fun e h k => k e.c0.c0) k x e h)
theorem e301 : FnEq Tryz.prog G LF OF 301 T301 := fun cf lf => by kernel_rfl
theorem c301 : chkF Tryz.prog LF OF 301 = true := by kernel_rfl
def F302_0 (a : V) : M := fun b c d => cf 304 (vc a (vc (V.s 1 45) V.nil)) c fun g i => condV g (d (X.x 1) b i) (d X.n b i)
def F302_1 : M := fun a b c => sl4 (V.w 9223372036854775807) a fun d => sl1 (wI 1) d fun g => c X.n g b
def F302_2 : M := fun a b c => lenS a.c0.c3 fun d => lssW a.c0.c1 d fun g => guardT g b (fun i => i a.c0.c3 b) fun j m => guardT g m (fun n => n a.c0.c1 m) fun o p => guardT g p (fun q => sidxV j o fun r => q r p) fun s t => guardT g t (fun u => cf 334 (vc s V.nil) t fun v w => u v w) fun y a0 => pickV g y (V.t false) fun b0 => condV b0 (c X.n a a0) (c (X.x 3) a a0)
def F302_3 : M := fun a b c => leqW a.c0.c0 (V.w 9223372037928517632) fun d => condV d (mulV a.c0.c0 (wI 10) fun g => sidxV a.c0.c3 a.c0.c1 fun i => subY i (V.y 48) fun j => toW j fun m => addW g m fun n => sl0 n a fun o => c X.n o b) (c X.n a b)
def F302_4 : M := fun a b c => addW a.c0.c1 (wI 1) fun d => sl1 d a fun g => c X.n g b
def F302_5 (a : L8) : M := fun b c d => lssW b.c0.c4 (wI 0) fun g => condV g (subW a.c0.c1 (wI 1) fun i => sl5 i b fun j => d X.n j c) (d X.n b c)
def F302_6 (a : V) (b : H) (c : V) (d : L8) (g : KX) := guardF a b (fun i => eqlY c (V.y 48) fun j => i j b) fun m n => guardF a n (fun o => o m n) fun p q => guardT p q (fun r => r d.c0.c5 q) fun s t => guardT p t (fun u => gtrW s (wI 1) fun v => u v t) fun w y => guardT p y (fun a0 => a0 w y) fun b0 c0 => guardF b0 c0 (fun d0 => d0 d.c0.c4 c0) fun g0 i0 => guardF b0 i0 (fun j0 => lssW g0 (wI 0) fun m0 => j0 m0 i0) fun n0 o0 => guardT p o0 (fun p0 => pickV b0 (V.t true) n0 fun q0 => p0 q0 o0) fun r0 s0 => guardF a s0 (fun t0 => pickV p r0 (V.t false) fun u0 => t0 u0 s0) fun v0 w0 => pickV a (V.t true) v0 fun y0 => condV y0 (sl0 (wI 0) d fun a1 => sl1 d.c0.c1 a1 fun b1 => sl2 (V.t false) b1 fun c1 => g X.r c1 w0) (g X.n d w0)
def F302_7 (a : V) : M := fun b c d => eqlW b.c0.c5 (wI 0) fun g => guardF g c (fun i => i b.c0.c0 c) fun j m => guardF g m (fun n => gtrW j (V.w 9223372037928517632) fun o => n o m) fun p q => pickV g (V.t true) p fun r => guardF r q (fun s => s b.c0.c3 q) fun t u => guardF r u (fun v => v a u) fun w y => guardF r y (fun a0 => sidxV t w fun b0 => a0 b0 y) fun c0 d0 => F302_6 r d0 c0 b d
def F302_8 : M := fun a b c => mulV a.c0.c4 a.c0.c0 fun d => sl0 d a fun g => sl1 a.c0.c1 g fun i => sl2 (V.t true) i fun j => c X.r j b
def F302_9 : M := fun a b c => subW a.c0.c1 a.c0.c5 fun d => seqM (F302_7 d) (F302_8) a b c
def F302_10 : M := fun a b c => sl5 a.c0.c1 a fun d => seqM (F302_5 a) (F302_9) d b c
def F302_11 (a : V) : M := fun b c d => sl0 (wI 0) b fun g => sl1 (wI 0) g fun i => sl2 (V.t false) i fun j => sl4 (wI 1) j fun m => seqM (blockM 0 (seqM (blockM 2 (seqM (blockM 1 (seqM (F302_0 cf a) (fun n o p => p (X.x 2) n o))) (F302_1))) (seqM (blockM 3 (loopM lf (seqM (F302_2 cf) (blockM 4 (seqM (F302_3) (F302_4)))))) (fun q r s => s (X.x 0) q r)))) (F302_10) m c d
def T302 (cf : CallF) (lf : Nat) : V → H → KV → Bool := fun l h k => onCons l fun a b => onNil b ((F302_11 cf lf a) (⟨⟨V.u, V.u, V.u, a, V.u, V.u, V.u, V.u⟩, n8 V.u, n8 V.u, n8 V.u, n8 V.u, n8 V.u, n8 V.u, n8 V.u⟩ : L8) h fun x e h => finK (fun e h k => k (V.x .tup (vc e.c0.c0 (vc e.c0.c1 (vc e.c0.c2 V.nil))) V.nil)) k x e h)
theorem e302 : FnEq Tryz.prog G LF OF 302 T302 := fun cf lf => by kernel_rfl
theorem c302 : chkF Tryz.prog LF OF 302 = true := by kernel_rfl
def F303_0 : M := fun a b c => lenS a.c0.c4 fun d => lssW a.c0.c3 d fun g => condV g (c X.n a b) (c (X.x 0) a b)
def F303_1 (a : V) (b : H) (c : L8) (d g : V) (i : KX) := guardT a b (fun j => j c.c0.c4 b) fun m n => guardT a n (fun o => o d n) fun p q => guardT a q (fun r => sidxV m p fun s => r s q) fun t u => guardT a u (fun v => neqY t (V.y 92) fun w => v w u) fun y a0 => guardF g a0 (fun b0 => pickV a y (V.t false) fun c0 => b0 c0 a0) fun d0 g0 => pickV g (V.t true) d0 fun i0 => condV i0 (sl0 (V.s 0 0) c fun j0 => sl1 (wI 0) j0 fun m0 => sl2 (V.t false) m0 fun n0 => i X.r n0 g0) (i X.n c g0)
def F303_2 (a : V) : M := fun b c d => lenS b.c0.c4 fun g => geqV a g fun i => guardF i c (fun j => j b.c0.c4 c) fun m n => guardF i n (fun o => o a n) fun p q => guardF i q (fun r => sidxV m p fun s => r s q) fun t u => guardF i u (fun v => neqY t (V.y 34) fun w => v w u) fun y a0 => guardF i a0 (fun b0 => b0 y a0) fun c0 d0 => F303_1 c0 d0 b a i d
def F303_3 : M := fun a b c => sidxV a.c0.c4 a.c0.c3 fun d => sl6 d a fun g => c X.n g b
def F303_4 (a : V) (b : H) (c : L8) (d : KX) := lssY a (V.y 32) fun g => guardF g b (fun i => i a b) fun j m => guardF g m (fun n => gtrY j (V.y 126) fun o => n o m) fun p q => pickV g (V.t true) p fun r => condV r (sl0 (V.s 0 0) c fun s => sl1 (wI 0) s fun t => sl2 (V.t false) t fun u => d X.r u q) (eqlY a (V.y 92) fun v => condV v (addW c.c0.c3 (wI 1) fun w => sl3 w c fun y => seqM (F303_2 w) (F303_3) y q d) (d X.n c q))
def F303_5 (a : V) : M := fun b c d => eqlY a (V.y 34) fun g => condV g (cf 247 (vc b.c0.c5 V.nil) c fun i j => addW b.c0.c3 (wI 1) fun m => sl0 i b fun n => sl1 m n fun o => sl2 (V.t true) o fun p => d X.r p j) (F303_4 a c b d)
def F303_6 : M := fun a b c => cf 335 (vc a.c0.c5 (vc a.c0.c6 V.nil)) b fun d g => c X.n a g
def F303_7 : M := fun a b c => sidxV a.c0.c4 a.c0.c3 fun d => sl6 d a fun g => seqM (blockM 2 (F303_5 cf d)) (F303_6 cf) g b c
def F303_8 : M := fun a b c => addW a.c0.c3 (wI 1) fun d => sl3 d a fun g => c X.n g b
def F303_9 : M := fun a b c => sl3 (wI 1) a fun d => blockM 0 (loopM lf (seqM (F303_0) (seqM (blockM 1 (F303_7 cf)) (F303_8)))) d b c
def F303_10 : M := fun a b c => sl0 (V.s 0 0) a fun d => sl1 (wI 0) d fun g => sl2 (V.t false) g fun i => c X.r i b
def F303_11 : M := fun a b c => sl0 (V.s 0 0) a fun d => sl1 (wI 0) d fun g => sl2 (V.t false) g fun i => resv 1 b fun j m => newA j false 2 315 (V.x .agg (vc (V.x .pnil V.nil V.nil) (vc vN V.nil)) V.nil) m fun n o => sl5 n i fun p => seqM (F303_9 cf lf) (F303_10) p o c
def T303 (cf : CallF) (lf : Nat) : V → H → KV → Bool := fun l h k => onCons l fun a b => onNil b ((F303_11 cf lf) (⟨⟨V.u, V.u, V.u, V.u, a, V.u, V.u, V.u⟩, n8 V.u, n8 V.u, n8 V.u, n8 V.u, n8 V.u, n8 V.u, n8 V.u⟩ : L8) h fun x e h => finK (fun e h k => k (V.x .tup (vc e.c0.c0 (vc e.c0.c1 (vc e.c0.c2 V.nil))) V.nil)) k x e h)
theorem e303 : FnEq Tryz.prog G LF OF 303 T303 := fun cf lf => by kernel_rfl
theorem c303 : chkF Tryz.prog LF OF 303 = true := by kernel_rfl
def F304_0 (a b : V) : M := fun c d g => sl0 (V.t false) c fun i => cf 336 (vc a (vc b V.nil)) d fun j m => sl0 j i fun n => g X.r n m
def T304 (cf : CallF) (lf : Nat) : V → H → KV → Bool := fun l h k => onCons l fun a b => onCons b fun c d => onNil d ((F304_0 cf a c) (⟨n8 V.u, n8 V.u, n8 V.u, n8 V.u, n8 V.u, n8 V.u, n8 V.u, n8 V.u⟩ : L8) h fun x e h => finK (fun e h k => k e.c0.c0) k x e h)
theorem e304 : FnEq Tryz.prog G LF OF 304 T304 := fun cf lf => by kernel_rfl
theorem c304 : chkF Tryz.prog LF OF 304 = true := by kernel_rfl
def F305_0 (a b : V) : M := fun c d g => sl0 (wI 0) c fun i => cf 337 (vc a (vc b V.nil)) d fun j m => sl0 j i fun n => g X.r n m
def T305 (cf : CallF) (lf : Nat) : V → H → KV → Bool := fun l h k => onCons l fun a b => onCons b fun c d => onNil d ((F305_0 cf a c) (⟨n8 V.u, n8 V.u, n8 V.u, n8 V.u, n8 V.u, n8 V.u, n8 V.u, n8 V.u⟩ : L8) h fun x e h => finK (fun e h k => k e.c0.c0) k x e h)
theorem e305 : FnEq Tryz.prog G LF OF 305 T305 := fun cf lf => by kernel_rfl
theorem c305 : chkF Tryz.prog LF OF 305 = true := by kernel_rfl
def F309_0 (a : V) : M := fun b c d => condV a (d X.n b c) (d (X.x 0) b c)
def F309_1 : M := fun a b c => iadV 5 a.c0.c4 a.c0.c1 fun d => lda 5 d b fun g => callV cf a.c0.c3 (vc g V.nil) b fun i j => condV i (sl0 a.c0.c1 a fun m => c X.r m j) (c X.n a j)
def F309_2 : M := fun a b c => addW a.c0.c1 (wI 1) fun d => sl1 d a fun g => c X.n g b
def F309_3 : M := fun a b c => lssW a.c0.c1 a.c0.c2 fun d => seqM (F309_0 d) (seqM (blockM 1 (F309_1 cf)) (F309_2)) a b c
def F309_4 (a : V) : M := fun b c d => lenL a fun g => sl2 g b fun i => sl1 (wI 0) i fun j => blockM 0 (loopM lf (F309_3 cf)) j c d
def F309_5 : M := fun a b c => sl0 (V.w 9223372036854775807) a fun d => c X.r d b
def F309_6 (a : V) : M := fun b c d => sl0 (wI 0) b fun g => seqM (F309_4 cf lf a) (F309_5) g c d
def T309 (cf : CallF) (lf : Nat) : V → H → KV → Bool := fun l h k => onCons l fun a b => onCons b fun c d => onNil d ((F309_6 cf lf a) (⟨⟨V.u, V.u, V.u, c, a, V.u, V.u, V.u⟩, n8 V.u, n8 V.u, n8 V.u, n8 V.u, n8 V.u, n8 V.u, n8 V.u⟩ : L8) h fun x e h => finK (fun e h k => k e.c0.c0) k x e h)
theorem e309 : FnEq Tryz.prog G LF OF 309 T309 := fun cf lf => by kernel_rfl
theorem c309 : chkF Tryz.prog LF OF 309 = true := by kernel_rfl
def F310_0 (a b : V) : M := fun c d g => resv 1 d fun i j => newA i false 5 107 a j fun m n => sl0 (V.t false) c fun o => fadV 0 m fun p => ld1 p n fun q => eqlW q (wI 9) fun r => guardT r n (fun s => fadV 1 m fun t => s t n) fun u v => guardT r v (fun w => ld1 u v fun y => w y v) fun a0 b0 => guardT r b0 (fun c0 => ld1 b b0 fun d0 => c0 d0 b0) fun g0 i0 => guardT r i0 (fun j0 => eqlS a0 g0 fun m0 => j0 m0 i0) fun n0 o0 => pickV r n0 (V.t false) fun p0 => sl0 p0 o fun q0 => g X.r q0 o0
def T310 (cf : CallF) (lf : Nat) : V → H → KV → Bool := fun l h k => onCons l fun a b => onCons b fun c d => onNil d ((F310_0 a c) (⟨n8 V.u, n8 V.u, n8 V.u, n8 V.u, n8 V.u, n8 V.u, n8 V.u, n8 V.u⟩ : L8) h fun x e h => finK (fun e h k => k e.c0.c0) k x e h)
theorem e310 : FnEq Tryz.prog G LF OF 310 T310 := fun cf lf => by kernel_rfl
theorem c310 : chkF Tryz.prog LF OF 310 = true := by kernel_rfl
def F311_0 (a : V) : M := fun b c d => condV a (d X.n b c) (d (X.x 0) b c)
def F311_1 (a : H) (b : L8) (c : V) (d : KX) := resv 1 a fun g i => nilckV b.c0.c4 fun j => fadV 0 j fun m => ld1 m i fun n => nilckV b.c0.c4 fun o => fadV 0 o fun p => ld1 p i fun q => iadV 5 q c fun r => fadV 1 r fun s => ld1 s i fun t => cf 257 (vc n (vc t V.nil)) i fun u v => part 0 true 1 u (vc (wI 0) V.nil) fun w => bslA (Nat.add g 0) 1 1 3 w v fun y a0 => app 1 3 b.c0.c0 y a0 fun b0 c0 => sl0 b0 b fun d0 => d (X.x 1) d0 c0
def F311_2 (a : V) : M := fun b c d => nilckV b.c0.c4 fun g => fadV 0 g fun i => ld1 i c fun j => iadV 5 j a fun m => fadV 0 m fun n => ld1 n c fun o => eqlW o (wI 7) fun p => condV p (F311_1 cf c b a d) (d X.n b c)
def F311_3 : M := fun a b c => cf 311 (vc a.c0.c4 (vc a.c0.c5 V.nil)) b fun d g => app 1 3 a.c0.c0 d g fun i j => sl0 i a fun m => c X.n m j
def F311_4 : M := fun a b c => iadV 1 a.c0.c3 a.c0.c1 fun d => ld1 d b fun g => sl5 g a fun i => seqM (F311_2 cf g) (F311_3 cf) i b c
def F311_5 : M := fun a b c => addW a.c0.c1 (wI 1) fun d => sl1 d a fun g => c X.n g b
def F311_6 : M := fun a b c => lssW a.c0.c1 a.c0.c2 fun d => seqM (F311_0 d) (seqM (blockM 1 (F311_4 cf)) (F311_5)) a b c
def F311_7 (a b : V) : M := fun c d g => nilckV a fun i => fadV 0 i fun j => ld1 j d fun m => iadV 5 m b fun n => fadV 4 n fun o => ld1 o d fun p => sl3 p c fun q => lenL p fun r => sl2 r q fun s => sl1 (wI 0) s fun t => blockM 0 (loopM lf (F311_6 cf)) t d g
def F311_8 : M := fun a b c => sl0 a.c0.c0 a fun d => c X.r d b
def F311_9 (a b : V) : M := fun c d g => sl0 vN c fun i => seqM (F311_7 cf lf a b) (F311_8) i d g
def T311 (cf : CallF) (lf : Nat) : V → H → KV → Bool := fun l h k => onCons l fun a b => onCons b fun c d => onNil d ((F311_9 cf lf a c) (⟨⟨V.u, V.u, V.u, V.u, a, V.u, V.u, V.u⟩, n8 V.u, n8 V.u, n8 V.u, n8 V.u, n8 V.u, n8 V.u, n8 V.u⟩ : L8) h fun x e h => finK (fun e h k => k e.c0.c0) k x e h)
theorem e311 : FnEq Tryz.prog G LF OF 311 T311 := fun cf lf => by kernel_rfl
theorem c311 : chkF Tryz.prog LF OF 311 = true := by kernel_rfl
def F312_0 (a : H) (b c d : V) (g : L8) (i : KX) := part 0 true 1 (V.s 3 7301239) (vc (V.s 0 0) (vc (V.s 0 0) V.nil)) fun j => part 1 true 1 (V.s 6 113723913172051) j fun m => part 0 true 1 (V.s 1 110) (vc (V.s 0 0) (vc (V.s 0 0) V.nil)) fun n => part 1 true 1 (V.s 3 7630409) n fun o => resv 1 a fun p q => part 0 false 2 (V.x .agg m V.nil) (vc (V.s 0 0) (vc (V.s 0 0) (vc (V.s 0 0) (vc (V.s 0 0) V.nil)))) fun r => part 2 false 2 (V.x .agg o V.nil) r fun s => bslA p 2 2 413 s q fun t u => part 0 true 1 (V.s 4 1885697107) (vc (V.s 0 0) (vc vN V.nil)) fun v => part 1 true 1 t v fun w => cf 139 (vc b (vc c V.nil)) u fun y a0 => geqV y (wI 0) fun b0 => st false 2 d (V.x .agg w V.nil) a0 fun c0 d0 => sl1 b0 g fun g0 => i X.r g0 d0
def F312_1 (a b c d : V) : M := fun g i j => eqlS a (V.s 8 7957695015159100749) fun m => condV m (F312_0 cf i b c d g j) (j X.n g i)
def F312_2 : M := fun a b c => cf 340 (vc a.c0.c2 V.nil) b fun d g => mpL true (V.x .agg (vc (V.s 0 0) (vc vN V.nil)) V.nil) d a.c0.c3 g fun i => ext 0 i fun j => ext 1 i fun m => resv 1 g fun n o => newA n false 2 383 (V.x .agg (vc (V.s 0 0) (vc vN V.nil)) V.nil) o fun p q => st false 2 p j q fun r s => lda 2 p s fun t => st false 2 a.c0.c0 t s fun u v => sl1 m a fun w => c X.r w v
def F312_3 (a b c : V) : M := fun d g i => resv 1 g fun j m => newA j false 2 383 (V.x .agg (vc (V.s 0 0) (vc vN V.nil)) V.nil) m fun n o => sl0 n d fun p => sl1 (V.t false) p fun q => seqM (F312_1 cf a b c n) (F312_2 cf) q o i
def T312 (cf : CallF) (lf : Nat) : V → H → KV → Bool := fun l h k => onCons l fun a b => onCons b fun c d => onCons d fun g i => onNil i ((F312_3 cf a g c) (⟨⟨V.u, V.u, a, c, V.u, V.u, V.u, V.u⟩, n8 V.u, n8 V.u, n8 V.u, n8 V.u, n8 V.u, n8 V.u, n8 V.u⟩ : L8) h fun x e h => finK (fun e h k => lda 2 e.c0.c0 h fun z0 => k (V.x .tup (vc z0 (vc e.c0.c1 V.nil)) V.nil)) k x e h)
theorem e312 : FnEq Tryz.prog G LF OF 312 T312 := fun cf lf => by kernel_rfl
theorem c312 : chkF Tryz.prog LF OF 312 = true := by kernel_rfl
def F313_0 (a : V) : M := fun b c d => condV a (d X.n b c) (d (X.x 0) b c)
def F313_1 (a : V) : M := fun b c d => fadV 0 a fun g => ld1 g c fun i => neqW i (wI 5) fun j => condV j (d (X.x 1) b c) (d X.n b c)
def F313_2 (a : L8) (b : H) (c : KX) := cf 263 (vc a.c0.c6 (vc (V.x (.func 343) V.nil (vc a.c0.c5 V.nil)) V.nil)) b fun d g => notV d fun i => cf 204 (vc a.c0.c3 (vc i (vc (wI 5) V.nil))) g fun j m => lda 5 a.c0.c5 m fun n => resv 1 m fun o p => part 0 false 5 n (vc (wI 0) (vc (V.s 0 0) (vc (V.s 0 0) (vc (wI 0) (vc vN V.nil))))) fun q => bslA o 1 5 107 q p fun r s => app 5 107 a.c0.c6 r s fun t u => sl6 t a fun v => c X.n v u
def F313_3 : M := fun a b c => fadV 1 a.c0.c4 fun d => ld1 d b fun g => cf 341 (vc g (vc (V.x (.func 342) V.nil (vc a.c0.c5 V.nil)) V.nil)) b fun i j => cf 204 (vc a.c0.c3 (vc i (vc (wI 5) V.nil))) j fun m n => F313_2 cf a n c
def F313_4 : M := fun a b c => iadV 1 a.c0.c2 a.c0.c0 fun d => ld1 d b fun g => nilckV a.c0.c3 fun i => fadV 0 i fun j => ld1 j b fun m => iadV 5 m g fun n => lda 5 n b fun o => resv 1 b fun p q => newA p false 5 107 (V.x .agg (vc (wI 0) (vc (V.s 0 0) (vc (V.s 0 0) (vc (wI 0) (vc vN V.nil))))) V.nil) q fun r s => sl5 r a fun t => st false 5 r o s fun u v => seqM (F313_1 r) (F313_3 cf) t v c
def F313_5 : M := fun a b c => addW a.c0.c0 (wI 1) fun d => sl0 d a fun g => c X.n g b
def F313_6 : M := fun a b c => lssW a.c0.c0 a.c0.c1 fun d => seqM (F313_0 d) (seqM (blockM 1 (F313_4 cf)) (F313_5)) a b c
def F313_7 (a : V) : M := fun b c d => fadV 4 a fun g => ld1 g c fun i => sl2 i b fun j => lenL i fun m => sl1 m j fun n => sl0 (wI 0) n fun o => blockM 0 (loopM lf (F313_6 cf)) o c d
def F313_8 (a : V) : M := fun b c d => condV a (d X.n b c) (d (X.x 2) b c)
def F313_9 (a : H) (b : L8) (c d : V) (g : KX) := resv 0 a fun i j => nilckV b.c0.c3 fun m => fadV 0 m fun n => ld1 n j fun o => fadV 4 c fun p => ld1 p j fun q => iadV 1 q (wI 0) fun r => ld1 r j fun s => iadV 5 o s fun t => lda 5 t j fun u => fadV 1 b.c0.c4 fun v => ld1 v j fun w => iadV 2 w d fun y => fadV 1 y fun a0 => ld1 a0 j fun b0 => cf 315 (vc b.c0.c3 (vc u (vc b0 V.nil))) j fun c0 d0 => g X.n b d0
def F313_10 : M := fun a b c => iadV 5 a.c1.c1 a.c0.c7 fun d => lda 5 d b fun g => resv 1 b fun i j => newA i false 5 107 (V.x .agg (vc (wI 0) (vc (V.s 0 0) (vc (V.s 0 0) (vc (wI 0) (vc vN V.nil))))) V.nil) j fun m n => st false 5 m g n fun o p => fadV 1 a.c0.c4 fun q => ld1 q p fun r => cf 344 (vc r (vc (V.x (.func 345) V.nil (vc m V.nil)) V.nil)) p fun s t => nilckV a.c0.c3 fun u => fadV 5 u fun v => ld1 v t fun w => eqlW w (wI 0) fun y => condV y (F313_9 cf t a m s c) (c X.n a t)
def F313_11 : M := fun a b c => addW a.c0.c7 (wI 1) fun d => sl7 d a fun g => c X.n g b
def F313_12 : M := fun a b c => lssW a.c0.c7 a.c1.c0 fun d => seqM (F313_8 d) (seqM (blockM 3 (F313_10 cf)) (F313_11)) a b c
def F313_13 : M := fun a b c => lenL a.c0.c6 fun d => fadV 1 a.c0.c4 fun g => ld1 g b fun i => lenL i fun j => eqlW d j fun m => cf 204 (vc a.c0.c3 (vc m (vc (wI 3) V.nil))) b fun n o => sl9 a.c0.c6 a fun p => lenL a.c0.c6 fun q => sl8 q p fun r => sl7 (wI 0) r fun s => blockM 2 (loopM lf (F313_12 cf)) s o c
def F313_14 (a b : V) : M := fun c d g => resv 1 d fun i j => newA i false 5 107 a j fun m n => resv 1 n fun o p => newA o false 2 383 b p fun q r => sl4 q c fun s => sl6 vN s fun t => seqM (F313_7 cf lf m) (F313_13 cf lf) t r g
def T313 (cf : CallF) (lf : Nat) : V → H → KV → Bool := fun l h k => onCons l fun a b => onCons b fun c d => onCons d fun g i => onNil i ((F313_14 cf lf c g) (⟨⟨V.u, V.u, V.u, a, V.u, V.u, V.u, V.u⟩, n8 V.u, n8 V.u, n8 V.u, n8 V.u, n8 V.u, n8 V.u, n8 V.u⟩ : L8) h fun x e h => finK (fun e h k => k (V.x .tup V.nil V.nil)) k x e h)
theorem e313 : FnEq Tryz.prog G LF OF 313 T313 := fun cf lf => by kernel_rfl
theorem c313 : chkF Tryz.prog LF OF 313 = true := by kernel_rfl
def F314_0 (a : V) : M := fun b c d => eqlS a (V.s 4 1634165075) fun g => sl1 g b fun i => condV g (d X.n i c) (eqlS a (V.s 4 1885697107) fun j => sl1 j i fun m => d X.n m c)
def F314_1 : M := fun a b c => condV a.c0.c1 (sl0 a.c0.c2 a fun d => c X.r d b) (eqlS a.c0.c3 (V.s 5 495555404115) fun g => condV g (sl0 (V.s 4 1634165075) a fun i => c X.r i b) (eqlS a.c0.c3 (V.s 7 32481125887929925) fun j => condV j (sl0 (V.s 5 521611275845) a fun m => c X.r m b) (c X.n a b)))
def F314_2 (a : V) : M := fun b c d => sl3 a b fun g => blockM 0 (seqM (F314_0 a) (F314_1)) g c d
def F314_3 : M := fun a b c => sl0 (V.s 0 0) a fun d => c X.r d b
def F314_4 (a : V) : M := fun b c d => sl0 (V.s 0 0) b fun g => seqM (F314_2 a) (F314_3) g c d
def T314 (cf : CallF) (lf : Nat) : V → H → KV → Bool := fun l h k => onCons l fun a b => onNil b ((F314_4 a) (⟨⟨V.u, V.u, a, V.u, V.u, V.u, V.u, V.u⟩, n8 V.u, n8 V.u, n8 V.u, n8 V.u, n8 V.u, n8 V.u, n8 V.u⟩ : L8) h fun x e h => finK (fun e h k => k e.c0.c0) k x e h)
theorem e314 : FnEq Tryz.prog G LF OF 314 T314 := fun cf lf => by kernel_rfl
theorem c314 : chkF Tryz.prog LF OF 314 = true := by kernel_rfl
def F315_0 (a b c : V) : M := fun d g i => fadV 0 a fun j => ld1 j g fun m => eqlW m (wI 14) fun n => condV n (lda 5 a g fun o => cf 346 (vc b (vc o (vc c V.nil))) g fun p q => i X.r d q) (i X.n d g)
def F315_1 : M := fun a b c => fadV 0 a.c0.c1 fun d => ld1 d b fun g => resv 1 b fun i j => mapA i j fun m n => mpI m (V.s 3 7630409) (wI 10) n fun o p => mpI m (V.s 6 113723913172051) (wI 11) p fun q r => mpI m (V.s 7 31069335677005634) (wI 12) r fun s t => mpL false (wI 0) m a.c0.c2 t fun u => eqlW g u fun v => cf 204 (vc a.c0.c0 (vc v (vc (wI 6) V.nil))) t fun w y => c X.n a y
def F315_2 (a b c : V) : M := fun d g i => resv 1 g fun j m => newA j false 5 107 a m fun n o => sl1 n d fun p => seqM (F315_0 cf n b c) (F315_1 cf) p o i
def T315 (cf : CallF) (lf : Nat) : V → H → KV → Bool := fun l h k => onCons l fun a b => onCons b fun c d => onCons d fun g i => onNil i ((F315_2 cf c a g) (⟨⟨a, V.u, g, V.u, V.u, V.u, V.u, V.u⟩, n8 V.u, n8 V.u, n8 V.u, n8 V.u, n8 V.u, n8 V.u, n8 V.u⟩ : L8) h fun x e h => finK (fun e h k => k (V.x .tup V.nil V.nil)) k x e h)
theorem e315 : FnEq Tryz.prog G LF OF 315 T315 := fun cf lf => by kernel_rfl
theorem c315 : chkF Tryz.prog LF OF 315 = true := by kernel_rfl
def F316_0 (a : V) : M := fun b c d => leqW a (wI 12) fun g => condV g (cf 347 (vc b.c0.c2 (vc b.c0.c1 (vc b.c0.c0 (vc b.c0.c3 V.nil)))) c fun i j => d X.r b j) (d X.n b c)
def F316_1 : M := fun a b c => eqlW a.c0.c4 (wI 0) fun d => condV d (cf 348 (vc a.c0.c2 (vc a.c0.c1 (vc a.c0.c0 (vc a.c0.c3 V.nil)))) b fun g i => c X.r a i) (c X.n a b)
def F316_2 : M := fun a b c => notV a.c0.c5 fun d => condV d (cf 349 (vc a.c0.c2 (vc a.c0.c1 (vc a.c0.c0 (vc a.c0.c3 V.nil)))) b fun g i => subW a.c0.c4 (wI 1) fun j => sl4 j a fun m => c X.n m i) (c X.n a b)
def F316_3 (a b : V) : M := fun c d g => eqlW a (wI 2) fun i => condV i (cf 351 (vc c.c0.c2 (vc c.c0.c1 (vc c.c0.c0 (vc c.c0.c3 V.nil)))) d fun j m => subW c.c0.c0 (wI 1) fun n => subW b c.c0.c1 fun o => subW n o fun p => sl8 p c fun q => sl7 (wI 1) q fun r => g X.n r m) (g X.n c d)
def F316_4 : M := fun a b c => guardT a.c0.c5 b (fun d => d a.c0.c6 b) fun g i => pickV a.c0.c5 g (V.t false) fun j => guardT j i (fun m => m a.c0.c7 i) fun n o => guardT j o (fun p => eqlW n (wI 1) fun q => p q o) fun r s => pickV j r (V.t false) fun t => condV t (cf 352 (vc a.c0.c2 (vc a.c0.c1 (vc a.c0.c0 (vc a.c0.c3 V.nil)))) s fun u v => condV u (c X.r a v) (c X.n a v)) (c X.n a s)
def F316_5 (a : V) (b : H) (c d : V) (g : L8) (i : V) (j : KX) := guardT a b (fun m => iadV 4 c d fun n => m n b) fun o p => guardT a p (fun q => lda 4 o p fun r => q r p) fun s t => guardT a t (fun u => u g.c0.c3 t) fun v w => guardT a w (fun y => callV cf v (vc i (vc s V.nil)) w fun a0 b0 => y a0 b0) fun c0 d0 => guardT a d0 (fun g0 => lssW c0 (wI 0) fun i0 => g0 i0 d0) fun j0 m0 => guardT a m0 (fun n0 => notV j0 fun o0 => n0 o0 m0) fun p0 q0 => pickV a p0 (V.t false) fun r0 => condV r0 (cf 353 (vc g.c0.c2 (vc g.c0.c1 (vc g.c0.c0 (vc g.c1.c0 (vc g.c0.c3 V.nil))))) q0 fun s0 t0 => sl1 s0 g fun u0 => j (X.x 1) u0 t0) (j X.n g q0)
def F316_6 : M := fun a b c => resv 0 b fun d g => gtrW a.c0.c1 (wI 0) fun i => guardT i g (fun j => j a.c0.c2 g) fun m n => guardT i n (fun o => o a.c0.c1 n) fun p q => guardT i q (fun r => subW p (wI 1) fun s => r s q) fun t u => guardT i u (fun v => iadV 4 m t fun w => v w u) fun y a0 => guardT i a0 (fun b0 => lda 4 y a0 fun c0 => b0 c0 a0) fun d0 g0 => guardT i g0 (fun i0 => i0 a.c0.c2 g0) fun j0 m0 => guardT i m0 (fun n0 => n0 a.c1.c0 m0) fun o0 p0 => F316_5 cf i p0 j0 o0 a d0 c
def F316_7 (a b c : V) (d : L8) (g : V) (i : H) (j : KX) (m : V) := condV a (geqV b c fun n => sl5 n d fun o => cf 316 (vc o.c0.c2 (vc o.c0.c1 (vc g (vc o.c0.c4 (vc o.c0.c3 V.nil))))) i fun p q => addW g (wI 1) fun r => sl1 r o fun s => j X.n s q) (geqV m c fun t => sl5 t d fun u => addW g (wI 1) fun v => cf 316 (vc u.c0.c2 (vc v (vc u.c0.c0 (vc u.c0.c4 (vc u.c0.c3 V.nil))))) i fun w y => sl0 g u fun a0 => j X.n a0 y)
def F316_8 : M := fun a b c => cf 354 (vc a.c0.c2 (vc a.c0.c1 (vc a.c0.c0 (vc a.c1.c0 (vc a.c0.c3 V.nil))))) b fun d g => ext 0 d fun i => ext 1 d fun j => sl6 j a fun m => subW i m.c0.c1 fun n => subW m.c0.c0 i fun o => quoV m.c1.c1 (wI 8) fun p => lssW n o fun q => F316_7 cf q n p m i g c o
def F316_9 : M := fun a b c => cf 350 (vc a.c0.c2 (vc a.c0.c1 (vc a.c0.c0 (vc a.c0.c3 V.nil)))) b fun d g => ext 0 d fun i => ext 1 d fun j => sl8 i a fun m => sl7 j m fun n => seqM (F316_3 cf j i) (seqM (F316_4 cf) (seqM (F316_6 cf) (F316_8 cf))) n g c
def F316_10 : M := fun a b c => subW a.c0.c0 a.c0.c1 fun d => sl9 d a fun g => seqM (F316_0 cf d) (seqM (F316_1 cf) (seqM (F316_2 cf) (F316_9 cf))) g b c
def F316_11 : M := fun a b c => sl5 (V.t true) a fun d => sl6 (V.t true) d fun g => blockM 0 (loopM lf (blockM 1 (F316_10 cf))) g b c
def T316 (cf : CallF) (lf : Nat) : V → H → KV → Bool := fun l h k => onCons l fun a b => onCons b fun c d => onCons d fun g i => onCons i fun j m => onCons m fun n o => onNil o ((F316_11 cf lf) (⟨⟨g, c, a, n, j, V.u, V.u, V.u⟩, n8 V.u, n8 V.u, n8 V.u, n8 V.u, n8 V.u, n8 V.u, n8 V.u⟩ : L8) h fun x e h => finK (fun e h k => k (V.x .tup V.nil V.nil)) k x e h)
theorem e316 : FnEq Tryz.prog G LF OF 316 T316 := fun cf lf => by kernel_rfl
theorem c316 : chkF Tryz.prog LF OF 316 = true := by kernel_rfl
def F317_0 (a : V) : M := fun b c d => condV (V.t false) (toI .u32 a fun g => cf 355 (vc g V.nil) c fun i j => sl0 i b fun m => d X.r m j) (d X.n b c)
def F317_1 : M := fun a b c => cf 356 (vc a.c0.c1 V.nil) b fun d g => sl0 d a fun i => c X.r i g
def F317_2 (a : V) : M := fun b c d => sl0 (wI 0) b fun g => seqM (F317_0 cf a) (F317_1 cf) g c d
def T317 (cf : CallF) (lf : Nat) : V → H → KV → Bool := fun l h k => onCons l fun a b => onNil b ((F317_2 cf a) (⟨⟨V.u, a, V.u, V.u, V.u, V.u, V.u, V.u⟩, n8 V.u, n8 V.u, n8 V.u, n8 V.u, n8 V.u, n8 V.u, n8 V.u⟩ : L8) h fun x e h => finK (fun e h k => k e.c0.c0) k x e h)
theorem e317 : FnEq Tryz.prog G LF OF 317 T317 := fun cf lf => by kernel_rfl
theorem c317 : chkF Tryz.prog LF OF 317 = true := by kernel_rfl
def F318_0 (a : V) : M := fun b c d => sl0 (V.t false) b fun g => neqS a a fun i => sl0 i g fun j => d X.r j c
def T318 (cf : CallF) (lf : Nat) : V → H → KV → Bool := fun l h k => onCons l fun a b => onNil b ((F318_0 a) (⟨n8 V.u, n8 V.u, n8 V.u, n8 V.u, n8 V.u, n8 V.u, n8 V.u, n8 V.u⟩ : L8) h fun x e h => finK (fun e h k => k e.c0.c0) k x e h)
theorem e318 : FnEq Tryz.prog G LF OF 318 T318 := fun cf lf => by kernel_rfl
theorem c318 : chkF Tryz.prog LF OF 318 = true := by kernel_rfl
def F319_0 (a b : V) : M := fun c d g => sl0 (wI 0) c fun i => cf 357 (vc a (vc b (vc (V.t true) V.nil))) d fun j m => sl0 j i fun n => g X.r n m
def T319 (cf : CallF) (lf : Nat) : V → H → KV → Bool := fun l h k => onCons l fun a b => onCons b fun c d => onNil d ((F319_0 cf a c) (⟨n8 V.u, n8 V.u, n8 V.u, n8 V.u, n8 V.u, n8 V.u, n8 V.u, n8 V.u⟩ : L8) h fun x e h => finK (fun e h k => k e.c0.c0) k x e h)
theorem e319 : FnEq Tryz.prog G LF OF 319 T319 := fun cf lf => by kernel_rfl
theorem c319 : chkF Tryz.prog LF OF 319 = true := by kernel_rfl
def F320_0 (a b : V) : M := fun c d g => notV a fun i => condV i (cf 279 (vc b (vc (wI 5) V.nil)) d fun j m => g X.n c m) (g X.n c d)
def F320_1 : M := fun a b c => resv 0 b fun d g => fadV 1 a.c0.c1 fun i => ld1 i g fun j => fadV 2 a.c0.c1 fun m => ld1 m g fun n => fadV 3 a.c0.c1 fun o => ld1 o g fun p => fadV 1 a.c0.c2 fun q => st true 1 q j g fun r s => ld1 m s fun t => both (eqV t n) (ld1 o s fun u => both (eqV u p) (fadV 2 a.c0.c2 fun v => st true 1 v n s fun w y => ld1 o y fun a0 => both (eqV a0 p) (fadV 3 a.c0.c2 fun b0 => st true 1 b0 p y fun c0 d0 => c X.n a d0)))
def F320_2 (a : H) (b c : V) (d : L8) (g : KX) := resv 1 a fun i j => nilckV b fun m => fadV 2 m fun n => ld1 n j fun o => fadV 1 c fun p => ld1 p j fun q => cf 153 (vc o (vc q V.nil)) j fun r s => ext 0 r fun t => ext 1 r fun u => newA (Nat.add i 0) false 4 85 (V.x .agg (vc (V.s 0 0) (vc (wI 0) (vc (wI 0) (vc (V.s 0 0) V.nil)))) V.nil) s fun v w => sl1 v d fun y => st false 4 v t w fun a0 b0 => seqM (F320_0 cf u b) (F320_1) y b0 g
def F320_3 (a : V) (b : H) (c d : V) (g : KX) (i : L8) (j m : V) := condV a (resv 0 b fun n o => fadV 1 c fun p => ld1 p o fun q => fadV 1 d fun r => st true 1 r (wI 5) o fun s t => ld1 p t fun u => both (eqV u q) (fadV 3 d fun v => st true 1 v q t fun w y => g X.n i y)) (eqlW j (wI 12) fun a0 => condV a0 (fadV 3 c fun b0 => ld1 b0 b fun c0 => addW (wI 2) c0 fun d0 => fadV 1 d fun g0 => st true 1 g0 d0 b fun i0 j0 => g X.n i j0) (eqlW j (wI 13) fun m0 => condV m0 (fadV 1 d fun n0 => st true 1 n0 (wI 1) b fun o0 p0 => g X.n i p0) (F320_2 cf b m c i g)))
def F320_4 (a b c d : V) : M := fun g i j => eqlW a (wI 10) fun m => condV m (resv 0 i fun n o => fadV 3 b fun p => ld1 p o fun q => fadV 1 c fun r => st true 1 r (wI 4) o fun s t => ld1 p t fun u => both (eqV u q) (fadV 2 c fun v => st true 1 v q t fun w y => j X.n g y)) (eqlW a (wI 11) fun a0 => F320_3 cf a0 i b c j g a d)
def F320_5 (a b c : V) : M := fun d g i => fadV 0 a fun j => ld1 j g fun m => blockM 0 (F320_4 cf m a b c) d g i
def F320_6 : M := fun a b c => lda 4 a.c0.c2 b fun d => st false 4 a.c0.c0 d b fun g i => c X.r a i
def F320_7 (a b c : V) : M := fun d g i => resv 1 g fun j m => newA j false 5 107 a m fun n o => resv 1 o fun p q => newA p false 4 85 (V.x .agg (vc (V.s 0 0) (vc (wI 0) (vc (wI 0) (vc (V.s 0 0) V.nil)))) V.nil) q fun r s => sl0 r d fun t => part 0 true 1 b (vc (V.s 0 0) (vc (wI 0) (vc (wI 0) (vc (V.s 0 0) V.nil)))) fun u => resv 1 s fun v w => newA v false 4 85 (V.x .agg (vc (V.s 0 0) (vc (wI 0) (vc (wI 0) (vc (V.s 0 0) V.nil)))) V.nil) w fun y a0 => sl2 y t fun b0 => st false 4 y (V.x .agg u V.nil) a0 fun c0 d0 => seqM (F320_5 cf n y c) (F320_6) b0 d0 i
def T320 (cf : CallF) (lf : Nat) : V → H → KV → Bool := fun l h k => onCons l fun a b => onCons b fun c d => onCons d fun g i => onNil i ((F320_7 cf g c a) (⟨n8 V.u, n8 V.u, n8 V.u, n8 V.u, n8 V.u, n8 V.u, n8 V.u, n8 V.u⟩ : L8) h fun x e h => finK (fun e h k => lda 4 e.c0.c0 h k) k x e h)
theorem e320 : FnEq Tryz.prog G LF OF 320 T320 := fun cf lf => by kernel_rfl
theorem c320 : chkF Tryz.prog LF OF 320 = true := by kernel_rfl
def F322_0 (a : V) : M := fun b c d => sl0 (V.s 0 0) b fun g => resv 1 c fun i j => newA i false 2 315 (V.x .agg (vc (V.x .pnil V.nil V.nil) (vc vN V.nil)) V.nil) j fun m n => cf 359 (vc m (vc a V.nil)) n fun o p => cf 247 (vc m V.nil) p fun q r => sl0 q g fun s => d X.r s r
def T322 (cf : CallF) (lf : Nat) : V → H → KV → Bool := fun l h k => onCons l fun a b => onNil b ((F322_0 cf a) (⟨n8 V.u, n8 V.u, n8 V.u, n8 V.u, n8 V.u, n8 V.u, n8 V.u, n8 V.u⟩ : L8) h fun x e h => finK (fun e h k => k e.c0.c0) k x e h)
theorem e322 : FnEq Tryz.prog G LF OF 322 T322 := fun cf lf => by kernel_rfl
theorem c322 : chkF Tryz.prog LF OF 322 = true := by kernel_rfl
def F326_0 (a : V) : M := fun b c d => sl0 (V.t false) b fun g => cf 305 (vc (V.s 5 56005232928) (vc a V.nil)) c fun i j => geqV i (wI 0) fun m => sl0 m g fun n => d X.r n j
def T326 (cf : CallF) (lf : Nat) : V → H → KV → Bool := fun l h k => onCons l fun a b => onNil b ((F326_0 cf a) (⟨n8 V.u, n8 V.u, n8 V.u, n8 V.u, n8 V.u, n8 V.u, n8 V.u, n8 V.u⟩ : L8) h fun x e h => finK (fun e h k => k e.c0.c0) k x e h)
theorem e326 : FnEq Tryz.prog G LF OF 326 T326 := fun cf lf => by kernel_rfl
theorem c326 : chkF Tryz.prog LF OF 326 = true := by kernel_rfl
def F330_0 (a : V) : M := fun b c d => resv 0 c fun g i => nilckV a fun j => fadV 1 j fun m => ld1 m i fun n => nilckV a fun o => fadV 0 o fun p => ld1 p i fun q => lenL q fun r => geqV n r fun s => condV s (sl0 (V.s 0 0) b fun t => d X.r t i) (d X.n b i)
def F330_1 : M := fun a b c => resv 0 b fun d g => nilckV a.c0.c1 fun i => fadV 0 i fun j => ld1 j g fun m => nilckV a.c0.c1 fun n => fadV 1 n fun o => ld1 o g fun p => iadV 2 m p fun q => fadV 0 q fun r => ld1 r g fun s => sl0 s a fun t => c X.r t g
def F330_2 (a : V) : M := fun b c d => sl0 (V.s 0 0) b fun g => seqM (F330_0 a) (F330_1) g c d
def T330 (cf : CallF) (lf : Nat) : V → H → KV → Bool := fun l h k => onCons l fun a b => onNil b ((F330_2 a) (⟨⟨V.u, a, V.u, V.u, V.u, V.u, V.u, V.u⟩, n8 V.u, n8 V.u, n8 V.u, n8 V.u, n8 V.u, n8 V.u, n8 V.u⟩ : L8) h fun x e h => finK (fun e h k => k e.c0.c0) k x e h)
theorem e330 : FnEq Tryz.prog G LF OF 330 T330 := fun cf lf => by kernel_rfl
theorem c330 : chkF Tryz.prog LF OF 330 = true := by kernel_rfl
def F331_0 (a b : V) : M := fun c d g => cf 360 (vc a (vc (V.s 5 521610294641) V.nil)) d fun i j => notV i fun m => guardT m j (fun n => n a j) fun o p => guardT m p (fun q => cf 360 (vc o (vc (V.s 8 7957695015159100781) V.nil)) p fun r s => q r s) fun t u => pickV m t (V.t false) fun v => condV v (fadV 3 b fun w => st true 1 w (wI 1) u fun y a0 => g X.n c a0) (g X.n c u)
def F331_1 : M := fun a b c => cf 330 (vc a.c0.c2 V.nil) b fun d g => cf 138 (vc d V.nil) g fun i j => condV i (cf 361 (vc a.c0.c2 V.nil) j fun m n => ext 0 m fun o => ext 1 m fun p => fadV 1 a.c0.c3 fun q => st true 1 q o n fun r s => c X.n a s) (c X.n a j)
def F331_2 (a : L8) (b : H) (c : KX) := cf 362 (vc a.c0.c2 (vc (V.s 1 41) (vc (V.x (.func 363) (vc a.c0.c2 V.nil) V.nil) V.nil))) b fun d g => ext 0 d fun i => ext 1 d fun j => fadV 4 a.c0.c3 fun m => st true 1 m i g fun n o => eqN nilI nots j (V.x .inil V.nil V.nil) fun p => condV p (cf 297 (vc (V.s 9 2128683892942434361718) (vc j V.nil)) o fun q r => sl0 (wI 0) a fun s => sl1 q s fun t => c X.r t r) (c X.n a o)
def F331_3 : M := fun a b c => cf 360 (vc a.c0.c2 (vc (V.s 1 40) V.nil)) b fun d g => condV d (F331_2 cf a g c) (c X.n a g)
def F331_4 : M := fun a b c => cf 333 (vc a.c0.c2 V.nil) b fun d g => ext 0 d fun i => ext 1 d fun j => fadV 4 a.c0.c3 fun m => ld1 m g fun n => app 1 3 n i g fun o p => fadV 4 a.c0.c3 fun q => st true 1 q o p fun r s => lda 5 a.c0.c3 s fun t => cf 298 (vc a.c0.c2 (vc t (vc j V.nil))) s fun u v => ext 0 u fun w => ext 1 u fun y => sl0 w a fun a0 => sl1 y a0 fun b0 => c X.r b0 v
def F331_5 (a : H) (b : L8) (c : V) (d : KX) := part 0 true 1 (wI 2) (vc (wI 0) (vc (V.s 0 0) (vc (V.s 0 0) (vc (wI 0) (vc vN V.nil))))) fun g => resv 1 a fun i j => newA i false 5 107 (V.x .agg (vc (wI 0) (vc (V.s 0 0) (vc (V.s 0 0) (vc (wI 0) (vc vN V.nil))))) V.nil) j fun m n => sl3 m b fun o => st false 5 m (V.x .agg g V.nil) n fun p q => seqM (F331_0 cf c m) (seqM (F331_1 cf) (seqM (F331_3 cf) (F331_4 cf))) o q d
def F331_6 (a : V) : M := fun b c d => sl0 (wI 0) b fun g => sl1 (V.x .inil V.nil V.nil) g fun i => F331_5 cf c i a d
def T331 (cf : CallF) (lf : Nat) : V → H → KV → Bool := fun l h k => onCons l fun a b => onNil b ((F331_6 cf a) (⟨⟨V.u, V.u, a, V.u, V.u, V.u, V.u, V.u⟩, n8 V.u, n8 V.u, n8 V.u, n8 V.u, n8 V.u, n8 V.u, n8 V.u⟩ : L8) h fun x e h => finK (fun e h k => k (V.x .tup (vc e.c0.c0 (vc e.c0.c1 V.nil)) V.nil)) k x e h)
theorem e331 : FnEq Tryz.prog G LF OF 331 T331 := fun cf lf => by kernel_rfl
theorem c331 : chkF Tryz.prog LF OF 331 = true := by kernel_rfl
def F332_0 (a : V) : M := fun b c d => cf 330 (vc a V.nil) c fun g i => eqlS g (V.s 2 28271) fun j => condV j (cf 364 (vc a V.nil) i fun m n => sl0 (wI 0) b fun o => sl1 m o fun p => d X.r p n) (d X.n b i)
def F332_1 (a b : V) : M := fun c d g => eqN nilI idB a (V.x .inil V.nil V.nil) fun i => condV i (fadV 1 c.c0.c3 fun j => st true 1 j b d fun m n => cf 365 (vc c.c0.c2 (vc (V.s 2 28271) V.nil)) n fun o p => sl4 o c fun q => g X.n q p) (g X.n c d)
def F332_2 : M := fun a b c => eqN nilI idB a.c0.c4 (V.x .inil V.nil V.nil) fun d => condV d (cf 361 (vc a.c0.c2 V.nil) b fun g i => ext 0 g fun j => ext 1 g fun m => fadV 2 a.c0.c3 fun n => st true 1 n j i fun o p => sl4 m a fun q => c X.n q p) (c X.n a b)
def F332_3 : M := fun a b c => eqN nilI idB a.c0.c4 (V.x .inil V.nil V.nil) fun d => condV d (cf 333 (vc a.c0.c2 V.nil) b fun g i => ext 0 g fun j => ext 1 g fun m => fadV 4 a.c0.c3 fun n => st true 1 n j i fun o p => sl4 m a fun q => c X.n q p) (c X.n a b)
def F332_4 : M := fun a b c => lda 5 a.c0.c3 b fun d => cf 298 (vc a.c0.c2 (vc d (vc a.c0.c4 V.nil))) b fun g i => ext 0 g fun j => ext 1 g fun m => sl0 j a fun n => sl1 m n fun o => c X.r o i
def F332_5 : M := fun a b c => cf 361 (vc a.c0.c2 V.nil) b fun d g => ext 0 d fun i => ext 1 d fun j => sl4 j a fun m => seqM (F332_1 cf j i) (seqM (F332_2 cf) (seqM (F332_3 cf) (F332_4 cf))) m g c
def F332_6 (a : H) (b : L8) (c : V) (d : KX) := part 0 true 1 (wI 9) (vc (wI 0) (vc (V.s 0 0) (vc (V.s 0 0) (vc (wI 0) (vc vN V.nil))))) fun g => resv 1 a fun i j => newA i false 5 107 (V.x .agg (vc (wI 0) (vc (V.s 0 0) (vc (V.s 0 0) (vc (wI 0) (vc vN V.nil))))) V.nil) j fun m n => sl3 m b fun o => st false 5 m (V.x .agg g V.nil) n fun p q => seqM (F332_0 cf c) (F332_5 cf) o q d
def F332_7 (a : V) : M := fun b c d => sl0 (wI 0) b fun g => sl1 (V.x .inil V.nil V.nil) g fun i => nilckV a fun j => fadV 1 j fun m => ld1 m c fun n => addW n (wI 1) fun o => nilckV a fun p => fadV 1 p fun q => st true 1 q o c fun r s => F332_6 cf s i a d
def T332 (cf : CallF) (lf : Nat) : V → H → KV → Bool := fun l h k => onCons l fun a b => onNil b ((F332_7 cf a) (⟨⟨V.u, V.u, a, V.u, V.u, V.u, V.u, V.u⟩, n8 V.u, n8 V.u, n8 V.u, n8 V.u, n8 V.u, n8 V.u, n8 V.u⟩ : L8) h fun x e h => finK (fun e h k => k (V.x .tup (vc e.c0.c0 (vc e.c0.c1 V.nil)) V.nil)) k x e h)
theorem e332 : FnEq Tryz.prog G LF OF 332 T332 := fun cf lf => by kernel_rfl
theorem c332 : chkF Tryz.prog LF OF 332 = true := by kernel_rfl
def F333_0 (a : V) : M := fun b c d => cf 330 (vc a V.nil) c fun g i => eqlS g (V.s 1 123) fun j => guardT j i (fun m => m a i) fun n o => guardT j o (fun p => nilckV n fun q => p q o) fun r s => guardT j s (fun t => fadV 4 r fun u => t u s) fun v w => guardT j w (fun y => ld1 v w fun a0 => y a0 w) fun b0 c0 => guardT j c0 (fun d0 => geqV b0 (wI 8) fun g0 => d0 g0 c0) fun i0 j0 => pickV j i0 (V.t false) fun m0 => condV m0 (cf 366 (vc a V.nil) j0 fun n0 o0 => part 0 true 1 (wI 2) (vc (wI 0) (vc (wI 0) V.nil)) fun p0 => part 1 true 1 n0 p0 fun q0 => resv 1 o0 fun r0 s0 => newA r0 false 2 330 (V.x .agg q0 V.nil) s0 fun t0 u0 => sl0 vN b fun v0 => sl1 (V.x (.iface 325) t0 V.nil) v0 fun w0 => d X.r w0 u0) (d X.n b j0)
def F333_1 : M := fun a b c => cf 365 (vc a.c0.c2 (vc (V.s 1 123) V.nil)) b fun d g => eqN nilI nots d (V.x .inil V.nil V.nil) fun i => condV i (sl0 vN a fun j => sl1 d j fun m => c X.r m g) (c X.n a g)
def F333_2 (a : L8) (b : H) (c : KX) := cf 362 (vc a.c0.c2 (vc (V.s 1 125) (vc (V.x (.func 367) (vc a.c0.c2 V.nil) V.nil) V.nil))) b fun d g => ext 0 d fun i => ext 1 d fun j => nilckV a.c0.c2 fun m => fadV 4 m fun n => ld1 n g fun o => subW o (wI 1) fun p => nilckV a.c0.c2 fun q => fadV 4 q fun r => st true 1 r p g fun s t => cf 297 (vc (V.s 10 545109315453898267059571) (vc j V.nil)) t fun u v => sl0 i a fun w => sl1 u w fun y => c X.r y v
def F333_3 : M := fun a b c => nilckV a.c0.c2 fun d => fadV 4 d fun g => ld1 g b fun i => addW i (wI 1) fun j => nilckV a.c0.c2 fun m => fadV 4 m fun n => st true 1 n j b fun o p => F333_2 cf a p c
def F333_4 (a : V) : M := fun b c d => sl0 vN b fun g => sl1 (V.x .inil V.nil V.nil) g fun i => seqM (F333_0 cf a) (seqM (F333_1 cf) (F333_3 cf)) i c d
def T333 (cf : CallF) (lf : Nat) : V → H → KV → Bool := fun l h k => onCons l fun a b => onNil b ((F333_4 cf a) (⟨⟨V.u, V.u, a, V.u, V.u, V.u, V.u, V.u⟩, n8 V.u, n8 V.u, n8 V.u, n8 V.u, n8 V.u, n8 V.u, n8 V.u⟩ : L8) h fun x e h => finK (fun e h k => k (V.x .tup (vc e.c0.c0 (vc e.c0.c1 V.nil)) V.nil)) k x e h)
theorem e333 : FnEq Tryz.prog G LF OF 333 T333 := fun cf lf => by kernel_rfl
theorem c333 : chkF Tryz.prog LF OF 333 = true := by kernel_rfl
def F334_0 (a : V) : M := fun b c d => sl0 (V.t false) b fun g => geqY a (V.y 48) fun i => guardT i c (fun j => j a c) fun m n => guardT i n (fun o => leqY m (V.y 57) fun p => o p n) fun q r => pickV i q (V.t false) fun s => sl0 s g fun t => d X.r t r
def T334 (cf : CallF) (lf : Nat) : V → H → KV → Bool := fun l h k => onCons l fun a b => onNil b ((F334_0 a) (⟨n8 V.u, n8 V.u, n8 V.u, n8 V.u, n8 V.u, n8 V.u, n8 V.u, n8 V.u⟩ : L8) h fun x e h => finK (fun e h k => k e.c0.c0) k x e h)
theorem e334 : FnEq Tryz.prog G LF OF 334 T334 := fun cf lf => by kernel_rfl
theorem c334 : chkF Tryz.prog LF OF 334 = true := by kernel_rfl
def F335_0 (a b : V) : M := fun c d g => sl0 (V.x .inil V.nil V.nil) c fun i => cf 289 (vc a V.nil) d fun j m => nilckV a fun n => fadV 1 n fun o => ld1 o m fun p => resv 1 m fun q r => part 0 true 1 b (vc (V.y 0) V.nil) fun s => bslA q 1 1 5 s r fun t u => app 1 5 p t u fun v w => nilckV a fun y => fadV 1 y fun a0 => st true 1 a0 v w fun b0 c0 => sl0 (V.x .inil V.nil V.nil) i fun d0 => g X.r d0 c0
def T335 (cf : CallF) (lf : Nat) : V → H → KV → Bool := fun l h k => onCons l fun a b => onCons b fun c d => onNil d ((F335_0 cf a c) (⟨n8 V.u, n8 V.u, n8 V.u, n8 V.u, n8 V.u, n8 V.u, n8 V.u, n8 V.u⟩ : L8) h fun x e h => finK (fun e h k => k e.c0.c0) k x e h)
theorem e335 : FnEq Tryz.prog G LF OF 335 T335 := fun cf lf => by kernel_rfl
theorem c335 : chkF Tryz.prog LF OF 335 = true := by kernel_rfl
def F336_0 (a b : V) (c : H) (d : L8) (g : KX) := lenS a fun i => lenS b fun j => geqV i j fun m => guardT m c (fun n => n a c) fun o p => guardT m p (fun q => q b p) fun r s => guardT m s (fun t => lenS r fun u => t u s) fun v w => guardT m w (fun y => sstr none (some v) o fun a0 => y a0 w) fun b0 c0 => guardT m c0 (fun d0 => d0 b c0) fun g0 i0 => guardT m i0 (fun j0 => eqlS b0 g0 fun m0 => j0 m0 i0) fun n0 o0 => pickV m n0 (V.t false) fun p0 => sl0 p0 d fun q0 => g X.r q0 o0
def F336_1 (a b : V) : M := fun c d g => sl0 (V.t false) c fun i => F336_0 a b d i g
def T336 (cf : CallF) (lf : Nat) : V → H → KV → Bool := fun l h k => onCons l fun a b => onCons b fun c d => onNil d ((F336_1 a c) (⟨n8 V.u, n8 V.u, n8 V.u, n8 V.u, n8 V.u, n8 V.u, n8 V.u, n8 V.u⟩ : L8) h fun x e h => finK (fun e h k => k e.c0.c0) k x e h)
theorem e336 : FnEq Tryz.prog G LF OF 336 T336 := fun cf lf => by kernel_rfl
theorem c336 : chkF Tryz.prog LF OF 336 = true := by kernel_rfl
def F337_0 (a b : V) : M := fun c d g => sl0 (wI 0) c fun i => cf 368 (vc a (vc b V.nil)) d fun j m => sl0 j i fun n => g X.r n m
def T337 (cf : CallF) (lf : Nat) : V → H → KV → Bool := fun l h k => onCons l fun a b => onCons b fun c d => onNil d ((F337_0 cf a c) (⟨n8 V.u, n8 V.u, n8 V.u, n8 V.u, n8 V.u, n8 V.u, n8 V.u, n8 V.u⟩ : L8) h fun x e h => finK (fun e h k => k e.c0.c0) k x e h)
theorem e337 : FnEq Tryz.prog G LF OF 337 T337 := fun cf lf => by kernel_rfl
theorem c337 : chkF Tryz.prog LF OF 337 = true := by kernel_rfl
def F340_0 (a : H) (b : L8) (c : KX) := resv 1 a fun d g => mapA d g fun i j => part 0 true 1 (V.s 2 25705) (vc (V.s 0 0) (vc (V.s 0 0) V.nil)) fun m => part 1 true 1 (V.s 3 7630409) m fun n => resv 1 j fun o p => part 0 false 2 (V.x .agg n V.nil) (vc (V.s 0 0) (vc (V.s 0 0) V.nil)) fun q => bslA o 1 2 413 q p fun r s => part 0 true 1 (V.s 4 1634165075) (vc (V.s 0 0) (vc vN V.nil)) fun t => part 1 true 1 r t fun u => mpI i (V.s 4 1634165107) (V.x .agg u V.nil) s fun v w => part 0 true 1 (V.s 5 495555404115) (vc (V.s 0 0) (vc vN V.nil)) fun y => part 1 true 1 vN y fun a0 => mpI i (V.s 5 495555404147) (V.x .agg a0 V.nil) w fun b0 c0 => part 0 true 1 (V.s 7 28538277257700723) (vc (V.s 0 0) (vc (V.s 0 0) V.nil)) fun d0 => part 1 true 1 (V.s 6 113723913172051) d0 fun g0 => resv 1 c0 fun i0 j0 => part 0 false 2 (V.x .agg g0 V.nil) (vc (V.s 0 0) (vc (V.s 0 0) V.nil)) fun m0 => bslA i0 1 2 413 m0 j0 fun n0 o0 => part 0 true 1 (V.s 7 32481125887929925) (vc (V.s 0 0) (vc vN V.nil)) fun p0 => part 1 true 1 n0 p0 fun q0 => mpI i (V.s 6 125779851896172) (V.x .agg q0 V.nil) o0 fun r0 s0 => part 0 true 1 (V.s 3 7630409) (vc (V.s 0 0) (vc vN V.nil)) fun t0 => part 1 true 1 vN t0 fun u0 => mpI i (V.s 4 1701669236) (V.x .agg u0 V.nil) s0 fun v0 w0 => sl0 i b fun y0 => c X.r y0 w0
def F340_1 (a : H) (b : L8) (c : KX) := resv 1 a fun d g => mapA d g fun i j => part 0 true 1 (V.s 3 7630409) (vc (V.s 0 0) (vc vN V.nil)) fun m => part 1 true 1 vN m fun n => mpI i (V.s 2 25705) (V.x .agg n V.nil) j fun o p => part 0 true 1 (V.s 6 113723913172051) (vc (V.s 0 0) (vc vN V.nil)) fun q => part 1 true 1 vN q fun r => mpI i (V.s 6 126948300911731) (V.x .agg r V.nil) p fun s t => part 0 true 1 (V.s 3 7630409) (vc (V.s 0 0) (vc vN V.nil)) fun u => part 1 true 1 vN u fun v => mpI i (V.s 4 1885697139) (V.x .agg v V.nil) t fun w y => part 0 true 1 (V.s 3 7630409) (vc (V.s 0 0) (vc vN V.nil)) fun a0 => part 1 true 1 vN a0 fun b0 => mpI i (V.s 5 495806936179) (V.x .agg b0 V.nil) y fun c0 d0 => sl0 i b fun g0 => c X.r g0 d0
def F340_2 (a : H) (b : L8) (c : KX) := resv 1 a fun d g => mapA d g fun i j => part 0 true 1 (V.s 3 7630409) (vc (V.s 0 0) (vc vN V.nil)) fun m => part 1 true 1 vN m fun n => mpI i (V.s 3 7955819) (V.x .agg n V.nil) j fun o p => part 0 true 1 (V.s 7 31069335677005634) (vc (V.s 0 0) (vc vN V.nil)) fun q => part 1 true 1 vN q fun r => mpI i (V.s 4 1801675106) (V.x .agg r V.nil) p fun s t => part 0 true 1 (V.s 6 113723913172051) (vc (V.s 0 0) (vc vN V.nil)) fun u => part 1 true 1 vN u fun v => mpI i (V.s 2 28783) (V.x .agg v V.nil) t fun w y => part 0 true 1 (V.s 6 113723913172051) (vc (V.s 0 0) (vc vN V.nil)) fun a0 => part 1 true 1 vN a0 fun b0 => mpI i (V.s 3 7301239) (V.x .agg b0 V.nil) y fun c0 d0 => part 0 true 1 (V.s 3 7630409) (vc (V.s 0 0) (vc vN V.nil)) fun g0 => part 1 true 1 vN g0 fun i0 => mpI i (V.s 1 110) (V.x .agg i0 V.nil) d0 fun j0 m0 => sl0 i b fun n0 => c X.r n0 m0
def F340_3 (a : H) (b : L8) (c : KX) := resv 1 a fun d g => mapA d g fun i j => part 0 true 1 (V.s 6 113723913172051) (vc (V.s 0 0) (vc vN V.nil)) fun m => part 1 true 1 vN m fun n => mpI i (V.s 6 126948300911731) (V.x .agg n V.nil) j fun o p => part 0 true 1 (V.s 6 113723913172051) (vc (V.s 0 0) (vc vN V.nil)) fun q => part 1 true 1 vN q fun r => mpI i (V.s 7 28538277257700723) (V.x .agg r V.nil) p fun s t => sl0 i b fun u => c X.r u t
def F340_4 (a : V) : M := fun b c d => eqlS a (V.s 5 521610294609) fun g => condV g (F340_0 c b d) (eqlS a (V.s 4 1634165075) fun i => condV i (F340_1 c b d) (eqlS a (V.s 5 521611275845) fun j => condV j (F340_2 c b d) (eqlS a (V.s 4 1885697107) fun m => condV m (F340_3 c b d) (d X.n b c))))
def F340_5 (a : V) : M := fun b c d => blockM 0 (F340_4 a) b c d
def F340_6 : M := fun a b c => sl0 (V.x .mnil V.nil V.nil) a fun d => c X.r d b
def F340_7 (a : V) : M := fun b c d => sl0 (V.x .mnil V.nil V.nil) b fun g => seqM (F340_5 a) (F340_6) g c d
def T340 (cf : CallF) (lf : Nat) : V → H → KV → Bool := fun l h k => onCons l fun a b => onNil b ((F340_7 a) (⟨n8 V.u, n8 V.u, n8 V.u, n8 V.u, n8 V.u, n8 V.u, n8 V.u, n8 V.u⟩ : L8) h fun x e h => finK (fun e h k => k e.c0.c0) k x e h)
theorem e340 : FnEq Tryz.prog G LF OF 340 T340 := fun cf lf => by kernel_rfl
theorem c340 : chkF Tryz.prog LF OF 340 = true := by kernel_rfl
def F341_0 (a b : V) : M := fun c d g => sl0 (V.t false) c fun i => cf 344 (vc a (vc b V.nil)) d fun j m => geqV j (wI 0) fun n => sl0 n i fun o => g X.r o m
def T341 (cf : CallF) (lf : Nat) : V → H → KV → Bool := fun l h k => onCons l fun a b => onCons b fun c d => onNil d ((F341_0 cf a c) (⟨n8 V.u, n8 V.u, n8 V.u, n8 V.u, n8 V.u, n8 V.u, n8 V.u, n8 V.u⟩ : L8) h fun x e h => finK (fun e h k => k e.c0.c0) k x e h)
theorem e341 : FnEq Tryz.prog G LF OF 341 T341 := fun cf lf => by kernel_rfl
theorem c341 : chkF Tryz.prog LF OF 341 = true := by kernel_rfl
def F342_0 (a b : V) : M := fun c d g => resv 1 d fun i j => newA i false 2 413 a j fun m n => sl0 (V.t false) c fun o => fadV 0 m fun p => ld1 p n fun q => fadV 1 b fun r => ld1 r n fun s => eqlS q s fun t => sl0 t o fun u => g X.r u n
def T342 (cf : CallF) (lf : Nat) : V → H → KV → Bool := fun l h k => onCons l fun a b => onCons b fun c d => onNil d ((F342_0 a c) (⟨n8 V.u, n8 V.u, n8 V.u, n8 V.u, n8 V.u, n8 V.u, n8 V.u, n8 V.u⟩ : L8) h fun x e h => finK (fun e h k => k e.c0.c0) k x e h)
theorem e342 : FnEq Tryz.prog G LF OF 342 T342 := fun cf lf => by kernel_rfl
theorem c342 : chkF Tryz.prog LF OF 342 = true := by kernel_rfl
def F343_0 (a b : V) : M := fun c d g => resv 1 d fun i j => newA i false 5 107 a j fun m n => sl0 (V.t false) c fun o => fadV 1 m fun p => ld1 p n fun q => fadV 1 b fun r => ld1 r n fun s => eqlS q s fun t => sl0 t o fun u => g X.r u n
def T343 (cf : CallF) (lf : Nat) : V → H → KV → Bool := fun l h k => onCons l fun a b => onCons b fun c d => onNil d ((F343_0 a c) (⟨n8 V.u, n8 V.u, n8 V.u, n8 V.u, n8 V.u, n8 V.u, n8 V.u, n8 V.u⟩ : L8) h fun x e h => finK (fun e h k => k e.c0.c0) k x e h)
theorem e343 : FnEq Tryz.prog G LF OF 343 T343 := fun cf lf => by kernel_rfl
theorem c343 : chkF Tryz.prog LF OF 343 = true := by kernel_rfl
def F344_0 (a : V) : M := fun b c d => condV a (d X.n b c) (d (X.x 0) b c)
def F344_1 : M := fun a b c => iadV 2 a.c0.c4 a.c0.c1 fun d => lda 2 d b fun g => callV cf a.c0.c3 (vc g V.nil) b fun i j => condV i (sl0 a.c0.c1 a fun m => c X.r m j) (c X.n a j)
def F344_2 : M := fun a b c => addW a.c0.c1 (wI 1) fun d => sl1 d a fun g => c X.n g b
def F344_3 : M := fun a b c => lssW a.c0.c1 a.c0.c2 fun d => seqM (F344_0 d) (seqM (blockM 1 (F344_1 cf)) (F344_2)) a b c
def F344_4 (a : V) : M := fun b c d => lenL a fun g => sl2 g b fun i => sl1 (wI 0) i fun j => blockM 0 (loopM lf (F344_3 cf)) j c d
def F344_5 : M := fun a b c => sl0 (V.w 9223372036854775807) a fun d => c X.r d b
def F344_6 (a : V) : M := fun b c d => sl0 (wI 0) b fun g => seqM (F344_4 cf lf a) (F344_5) g c d
def T344 (cf : CallF) (lf : Nat) : V → H → KV → Bool := fun l h k => onCons l fun a b => onCons b fun c d => onNil d ((F344_6 cf lf a) (⟨⟨V.u, V.u, V.u, c, a, V.u, V.u, V.u⟩, n8 V.u, n8 V.u, n8 V.u, n8 V.u, n8 V.u, n8 V.u, n8 V.u⟩ : L8) h fun x e h => finK (fun e h k => k e.c0.c0) k x e h)
theorem e344 : FnEq Tryz.prog G LF OF 344 T344 := fun cf lf => by kernel_rfl
theorem c344 : chkF Tryz.prog LF OF 344 = true := by kernel_rfl
def F345_0 (a b : V) : M := fun c d g => resv 1 d fun i j => newA i false 2 413 a j fun m n => sl0 (V.t false) c fun o => fadV 0 m fun p => ld1 p n fun q => fadV 1 b fun r => ld1 r n fun s => eqlS q s fun t => sl0 t o fun u => g X.r u n
def T345 (cf : CallF) (lf : Nat) : V → H → KV → Bool := fun l h k => onCons l fun a b => onCons b fun c d => onNil d ((F345_0 a c) (⟨n8 V.u, n8 V.u, n8 V.u, n8 V.u, n8 V.u, n8 V.u, n8 V.u, n8 V.u⟩ : L8) h fun x e h => finK (fun e h k => k e.c0.c0) k x e h)
theorem e345 : FnEq Tryz.prog G LF OF 345 T345 := fun cf lf => by kernel_rfl
theorem c345 : chkF Tryz.prog LF OF 345 = true := by kernel_rfl
def F346_0 (a b : V) (c : H) (d g : V) (i : KX) (j : L8) := eqlS a b fun m => guardT m c (fun n => n d c) fun o p => guardT m p (fun q => nilckV o fun r => q r p) fun s t => guardT m t (fun u => fadV 2 s fun v => u v t) fun w y => guardT m y (fun a0 => ld1 w y fun b0 => a0 b0 y) fun c0 d0 => guardT m d0 (fun g0 => g0 g d0) fun i0 j0 => guardT m j0 (fun m0 => iadV 5 c0 i0 fun n0 => m0 n0 j0) fun o0 p0 => guardT m p0 (fun q0 => fadV 3 o0 fun r0 => q0 r0 p0) fun s0 t0 => guardT m t0 (fun u0 => ld1 s0 t0 fun v0 => u0 v0 t0) fun w0 y0 => guardT m y0 (fun a1 => eqlW w0 (wI 1) fun b1 => a1 b1 y0) fun c1 d1 => pickV m c1 (V.t false) fun g1 => cf 204 (vc d (vc g1 (vc (wI 6) V.nil))) d1 fun i1 j1 => i X.n j j1
def F346_1 (a : V) (b : H) (c d : V) (g : KX) (i : L8) := nilckV a fun j => fadV 2 j fun m => ld1 m b fun n => cf 309 (vc n (vc (V.x (.func 370) V.nil (vc c V.nil)) V.nil)) b fun o p => geqV o (wI 0) fun q => cf 204 (vc a (vc q (vc (wI 5) V.nil))) p fun r s => condV r (nilckV a fun t => fadV 2 t fun u => ld1 u s fun v => iadV 5 v o fun w => fadV 2 w fun y => ld1 y s fun a0 => F346_0 cf a0 d s a o g i) (g X.n i s)
def F346_2 (a b c : V) : M := fun d g i => resv 1 g fun j m => newA j false 5 107 a m fun n o => resv 1 o fun p q => nilckV b fun r => fadV 3 r fun s => ld1 s q fun t => fadV 1 n fun u => ld1 u q fun v => part 0 true 1 v (vc (V.s 0 0) V.nil) fun w => bslA (Nat.add p 0) 1 1 9 w q fun y a0 => app 1 9 t y a0 fun b0 c0 => nilckV b fun d0 => fadV 3 d0 fun g0 => st true 1 g0 b0 c0 fun i0 j0 => F346_1 cf b j0 n c i d
def T346 (cf : CallF) (lf : Nat) : V → H → KV → Bool := fun l h k => onCons l fun a b => onCons b fun c d => onCons d fun g i => onNil i ((F346_2 cf c a g) (⟨n8 V.u, n8 V.u, n8 V.u, n8 V.u, n8 V.u, n8 V.u, n8 V.u, n8 V.u⟩ : L8) h fun x e h => finK (fun e h k => k (V.x .tup V.nil V.nil)) k x e h)
theorem e346 : FnEq Tryz.prog G LF OF 346 T346 := fun cf lf => by kernel_rfl
theorem c346 : chkF Tryz.prog LF OF 346 = true := by kernel_rfl
def F347_0 : M := fun a b c => lssW a.c0.c0 a.c0.c1 fun d => condV d (c X.n a b) (c (X.x 0) a b)
def F347_1 (a : V) (b : H) (c d : V) (g : L8) (i : V) (j : KX) := guardT a b (fun m => subW c (wI 1) fun n => m n b) fun o p => guardT a p (fun q => iadV 4 d o fun r => q r p) fun s t => guardT a t (fun u => lda 4 s t fun v => u v t) fun w y => guardT a y (fun a0 => a0 g.c0.c4 y) fun b0 c0 => guardT a c0 (fun d0 => callV cf b0 (vc i (vc w V.nil)) c0 fun g0 i0 => d0 g0 i0) fun j0 m0 => guardT a m0 (fun n0 => lssW j0 (wI 0) fun o0 => n0 o0 m0) fun p0 q0 => pickV a p0 (V.t false) fun r0 => condV r0 (j X.n g q0) (j (X.x 2) g q0)
def F347_2 : M := fun a b c => resv 0 b fun d g => gtrW a.c0.c2 a.c0.c3 fun i => guardT i g (fun j => j a.c0.c5 g) fun m n => guardT i n (fun o => o a.c0.c2 n) fun p q => guardT i q (fun r => iadV 4 m p fun s => r s q) fun t u => guardT i u (fun v => lda 4 t u fun w => v w u) fun y a0 => guardT i a0 (fun b0 => b0 a.c0.c5 a0) fun c0 d0 => guardT i d0 (fun g0 => g0 a.c0.c2 d0) fun i0 j0 => F347_1 cf i j0 i0 c0 a y c
def F347_3 : M := fun a b c => resv 0 b fun d g => subW a.c0.c2 (wI 1) fun i => iadV 4 a.c0.c5 i fun j => lda 4 j g fun m => iadV 4 a.c0.c5 a.c0.c2 fun n => lda 4 n g fun o => subW a.c0.c2 (wI 1) fun p => iadV 4 a.c0.c5 a.c0.c2 fun q => st false 4 q m g fun r s => iadV 4 a.c0.c5 p fun t => st false 4 t o s fun u v => c X.n a v
def F347_4 : M := fun a b c => subW a.c0.c2 (wI 1) fun d => sl2 d a fun g => c X.n g b
def F347_5 : M := fun a b c => sl2 a.c0.c0 a fun d => blockM 2 (loopM lf (seqM (F347_2 cf) (seqM (blockM 3 (F347_3)) (F347_4)))) d b c
def F347_6 : M := fun a b c => addW a.c0.c0 (wI 1) fun d => sl0 d a fun g => c X.n g b
def F347_7 (a : V) : M := fun b c d => addW a (wI 1) fun g => sl0 g b fun i => blockM 0 (loopM lf (seqM (F347_0) (seqM (blockM 1 (F347_5 cf lf)) (F347_6)))) i c d
def T347 (cf : CallF) (lf : Nat) : V → H → KV → Bool := fun l h k => onCons l fun a b => onCons b fun c d => onCons d fun g i => onCons i fun j m => onNil m ((F347_7 cf lf c) (⟨⟨V.u, g, V.u, c, j, a, V.u, V.u⟩, n8 V.u, n8 V.u, n8 V.u, n8 V.u, n8 V.u, n8 V.u, n8 V.u⟩ : L8) h fun x e h => finK (fun e h k => k (V.x .tup V.nil V.nil)) k x e h)
theorem e347 : FnEq Tryz.prog G LF OF 347 T347 := fun cf lf => by kernel_rfl
theorem c347 : chkF Tryz.prog LF OF 347 = true := by kernel_rfl
def F356_0 (a : V) : M := fun b c d => geqV a (mkI .u64 4294967296) fun g => condV g (shrV a (mkI .u64 32) fun i => sl1 i b fun j => sl0 (wI 32) j fun m => d X.n m c) (d X.n b c)
def F356_1 : M := fun a b c => geqV a.c0.c1 (mkI .u64 65536) fun d => condV d (shrV a.c0.c1 (mkI .u64 16) fun g => sl1 g a fun i => addW i.c0.c0 (wI 16) fun j => sl0 j i fun m => c X.n m b) (c X.n a b)
def F356_2 : M := fun a b c => geqV a.c0.c1 (mkI .u64 256) fun d => condV d (shrV a.c0.c1 (mkI .u64 8) fun g => sl1 g a fun i => addW i.c0.c0 (wI 8) fun j => sl0 j i fun m => c X.n m b) (c X.n a b)
def F356_3 : M := fun a b c => toY a.c0.c1 fun d => sidxV (V.s 256 1013866857139168856493015739252390649739422828853819106890363778118420553376247557433637691341895324351018602695588957474325319502760499485336098898398377509666851054660423406800006203933793007272033180812049178612605246075062580585469430410618860250057463399279570354286669047577758927328864388992123306212451509403152394148136105363817402562688186708175358218852349079190158732807302672745370040257219644697201681238697346923541678507645485296520536209706771857694240900605172937619415410180424934769249448772944216470541052485265558808433676546390051204254346932932316488017972311616136051587427851453983453479168) d fun g => toW g fun i => addW a.c0.c0 i fun j => sl0 j a fun m => c X.r m b
def F356_4 (a : V) : M := fun b c d => sl0 (wI 0) b fun g => seqM (F356_0 a) (seqM (F356_1) (seqM (F356_2) (F356_3))) g c d
def T356 (cf : CallF) (lf : Nat) : V → H → KV → Bool := fun l h k => onCons l fun a b => onNil b ((F356_4 a) (⟨⟨V.u, a, V.u, V.u, V.u, V.u, V.u, V.u⟩, n8 V.u, n8 V.u, n8 V.u, n8 V.u, n8 V.u, n8 V.u, n8 V.u⟩ : L8) h fun x e h => finK (fun e h k => k e.c0.c0) k x e h)
theorem e356 : FnEq Tryz.prog G LF OF 356 T356 := fun cf lf => by kernel_rfl
theorem c356 : chkF Tryz.prog LF OF 356 = true := by kernel_rfl
def F357_0 (a : V) : M := fun b c d => condV a (d X.n b c) (d (X.x 0) b c)
def F357_1 : M := fun a b c => ext 1 a.c0.c2 fun d => ext 2 a.c0.c2 fun g => callV cf a.c0.c3 (vc g V.nil) b fun i j => eqT idB i a.c0.c4 fun m => condV m (sl0 d a fun n => c X.r n j) (c X.n a j)
def F357_2 : M := fun a b c => itN a.c0.c1 b fun d g => sl2 d a fun i => ext 0 d fun j => seqM (F357_0 j) (blockM 1 (F357_1 cf)) i g c
def F357_3 (a : V) : M := fun b c d => resv 1 c fun g i => itA g a i fun j m => sl1 j b fun n => blockM 0 (loopM lf (F357_2 cf)) n m d
def F357_4 : M := fun a b c => sl0 (V.w 9223372036854775807) a fun d => c X.r d b
def F357_5 (a : V) : M := fun b c d => sl0 (wI 0) b fun g => seqM (F357_3 cf lf a) (F357_4) g c d
def T357 (cf : CallF) (lf : Nat) : V → H → KV → Bool := fun l h k => onCons l fun a b => onCons b fun c d => onCons d fun g i => onNil i ((F357_5 cf lf a) (⟨⟨V.u, V.u, V.u, c, g, V.u, V.u, V.u⟩, n8 V.u, n8 V.u, n8 V.u, n8 V.u, n8 V.u, n8 V.u, n8 V.u⟩ : L8) h fun x e h => finK (fun e h k => k e.c0.c0) k x e h)
theorem e357 : FnEq Tryz.prog G LF OF 357 T357 := fun cf lf => by kernel_rfl
theorem c357 : chkF Tryz.prog LF OF 357 = true := by kernel_rfl
def F359_0 (a : V) : M := fun b c d => condV a (d X.n b c) (d (X.x 0) b c)
def F359_1 (a : L8) : M := fun b c d => sidxV b.c0.c2 a.c0.c0 fun g => eqlY g (V.y 34) fun i => guardF i c (fun j => j b.c0.c2 c) fun m n => guardF i n (fun o => o a.c0.c0 n) fun p q => guardF i q (fun r => sidxV m p fun s => r s q) fun t u => guardF i u (fun v => eqlY t (V.y 92) fun w => v w u) fun y a0 => pickV i (V.t true) y fun b0 => condV b0 (cf 335 (vc b.c0.c3 (vc (V.y 92) V.nil)) a0 fun c0 d0 => d X.n b d0) (d X.n b a0)
def F359_2 : M := fun a b c => sidxV a.c0.c2 a.c0.c4 fun d => cf 335 (vc a.c0.c3 (vc d V.nil)) b fun g i => c X.n a i
def F359_3 : M := fun a b c => sl4 a.c0.c0 a fun d => seqM (F359_1 cf a) (F359_2 cf) d b c
def F359_4 : M := fun a b c => addW a.c0.c0 (wI 1) fun d => sl0 d a fun g => c X.n g b
def F359_5 : M := fun a b c => lssW a.c0.c0 a.c0.c1 fun d => seqM (F359_0 d) (seqM (blockM 1 (F359_3 cf)) (F359_4)) a b c
def F359_6 (a : V) : M := fun b c d => lenS a fun g => sl1 g b fun i => sl0 (wI 0) i fun j => blockM 0 (loopM lf (F359_5 cf)) j c d
def F359_7 : M := fun a b c => cf 335 (vc a.c0.c3 (vc (V.y 34) V.nil)) b fun d g => c X.n a g
def F359_8 (a b : V) : M := fun c d g => cf 335 (vc a (vc (V.y 34) V.nil)) d fun i j => seqM (F359_6 cf lf b) (F359_7 cf) c j g
def T359 (cf : CallF) (lf : Nat) : V → H → KV → Bool := fun l h k => onCons l fun a b => onCons b fun c d => onNil d ((F359_8 cf lf a c) (⟨⟨V.u, V.u, c, a, V.u, V.u, V.u, V.u⟩, n8 V.u, n8 V.u, n8 V.u, n8 V.u, n8 V.u, n8 V.u, n8 V.u⟩ : L8) h fun x e h => finK (fun e h k => k (V.x .tup V.nil V.nil)) k x e h)
theorem e359 : FnEq Tryz.prog G LF OF 359 T359 := fun cf lf => by kernel_rfl
theorem c359 : chkF Tryz.prog LF OF 359 = true := by kernel_rfl
def F360_0 (a b : V) : M := fun c d g => cf 330 (vc a V.nil) d fun i j => neqS i b fun m => condV m (sl0 (V.t false) c fun n => g X.r n j) (g X.n c j)
def F360_1 : M := fun a b c => nilckV a.c0.c1 fun d => fadV 1 d fun g => ld1 g b fun i => addW i (wI 1) fun j => nilckV a.c0.c1 fun m => fadV 1 m fun n => st true 1 n j b fun o p => sl0 (V.t true) a fun q => c X.r q p
def F360_2 (a b : V) : M := fun c d g => sl0 (V.t false) c fun i => seqM (F360_0 cf a b) (F360_1) i d g
def T360 (cf : CallF) (lf : Nat) : V → H → KV → Bool := fun l h k => onCons l fun a b => onCons b fun c d => onNil d ((F360_2 cf a c) (⟨⟨V.u, a, V.u, V.u, V.u, V.u, V.u, V.u⟩, n8 V.u, n8 V.u, n8 V.u, n8 V.u, n8 V.u, n8 V.u, n8 V.u⟩ : L8) h fun x e h => finK (fun e h k => k e.c0.c0) k x e h)
theorem e360 : FnEq Tryz.prog G LF OF 360 T360 := fun cf lf => by kernel_rfl
theorem c360 : chkF Tryz.prog LF OF 360 = true := by kernel_rfl
def F361_0 (a b : V) : M := fun c d g => cf 138 (vc a V.nil) d fun i j => notV i fun m => condV m (cf 364 (vc b V.nil) j fun n o => sl0 (V.s 0 0) c fun p => sl1 n p fun q => g X.r q o) (g X.n c j)
def F361_1 : M := fun a b c => nilckV a.c0.c2 fun d => fadV 1 d fun g => ld1 g b fun i => addW i (wI 1) fun j => nilckV a.c0.c2 fun m => fadV 1 m fun n => st true 1 n j b fun o p => sl0 a.c0.c3 a fun q => sl1 (V.x .inil V.nil V.nil) q fun r => c X.r r p
def F361_2 (a : V) : M := fun b c d => sl0 (V.s 0 0) b fun g => sl1 (V.x .inil V.nil V.nil) g fun i => cf 330 (vc a V.nil) c fun j m => sl3 j i fun n => seqM (F361_0 cf j a) (F361_1) n m d
def T361 (cf : CallF) (lf : Nat) : V → H → KV → Bool := fun l h k => onCons l fun a b => onNil b ((F361_2 cf a) (⟨⟨V.u, V.u, a, V.u, V.u, V.u, V.u, V.u⟩, n8 V.u, n8 V.u, n8 V.u, n8 V.u, n8 V.u, n8 V.u, n8 V.u⟩ : L8) h fun x e h => finK (fun e h k => k (V.x .tup (vc e.c0.c0 (vc e.c0.c1 V.nil)) V.nil)) k x e h)
theorem e361 : FnEq Tryz.prog G LF OF 361 T361 := fun cf lf => by kernel_rfl
theorem c361 : chkF Tryz.prog LF OF 361 = true := by kernel_rfl
def F362_0 (a : V) : M := fun b c d => eqN nilI nots a (V.x .inil V.nil V.nil) fun g => condV g (sl0 vN b fun i => sl1 a i fun j => d X.r j c) (d X.n b c)
def F362_1 : M := fun a b c => resv 1 b fun d g => part 0 true 1 a.c0.c3 (vc (wI 0) V.nil) fun i => bslA d 1 1 3 i g fun j m => app 1 3 a.c0.c0 j m fun n o => sl0 n a fun p => cf 360 (vc p.c0.c4 (vc p.c0.c5 V.nil)) o fun q r => condV q (sl0 n p fun s => sl1 (V.x .inil V.nil V.nil) s fun t => c X.r t r) (c X.n p r)
def F362_2 : M := fun a b c => callV cf a.c0.c2 V.nil b fun d g => ext 0 d fun i => ext 1 d fun j => sl3 i a fun m => seqM (F362_0 j) (F362_1 cf) m g c
def F362_3 : M := fun a b c => sl0 vN a fun d => sl1 (V.x .inil V.nil V.nil) d fun g => blockM 0 (loopM lf (blockM 1 (F362_2 cf))) g b c
def T362 (cf : CallF) (lf : Nat) : V → H → KV → Bool := fun l h k => onCons l fun a b => onCons b fun c d => onCons d fun g i => onNil i ((F362_3 cf lf) (⟨⟨V.u, V.u, g, V.u, a, c, V.u, V.u⟩, n8 V.u, n8 V.u, n8 V.u, n8 V.u, n8 V.u, n8 V.u, n8 V.u⟩ : L8) h fun x e h => finK (fun e h k => k (V.x .tup (vc e.c0.c0 (vc e.c0.c1 V.nil)) V.nil)) k x e h)
theorem e362 : FnEq Tryz.prog G LF OF 362 T362 := fun cf lf => by kernel_rfl
theorem c362 : chkF Tryz.prog LF OF 362 = true := by kernel_rfl
def F363_0 (a b c : V) : M := fun d g i => eqN nilI idB a (V.x .inil V.nil V.nil) fun j => condV j (cf 361 (vc b V.nil) g fun m n => ext 0 m fun o => ext 1 m fun p => fadV 1 c fun q => st true 1 q o n fun r s => sl2 p d fun t => i X.n t s) (i X.n d g)
def F363_1 : M := fun a b c => eqN nilI idB a.c0.c2 (V.x .inil V.nil V.nil) fun d => condV d (cf 365 (vc a.c0.c3 (vc (V.s 1 58) V.nil)) b fun g i => sl2 g a fun j => c X.n j i) (c X.n a b)
def F363_2 : M := fun a b c => eqN nilI idB a.c0.c2 (V.x .inil V.nil V.nil) fun d => condV d (cf 361 (vc a.c0.c3 V.nil) b fun g i => ext 0 g fun j => ext 1 g fun m => fadV 2 a.c0.c4 fun n => st true 1 n j i fun o p => sl2 m a fun q => c X.n q p) (c X.n a b)
def F363_3 : M := fun a b c => eqN nilI idB a.c0.c2 (V.x .inil V.nil V.nil) fun d => guardT d b (fun g => g a.c0.c3 b) fun i j => guardT d j (fun m => cf 360 (vc i (vc (V.s 1 33) V.nil)) j fun n o => m n o) fun p q => pickV d p (V.t false) fun r => condV r (fadV 3 a.c0.c4 fun s => st true 1 s (wI 1) q fun t u => c X.n a u) (c X.n a q)
def F363_4 : M := fun a b c => lda 5 a.c0.c4 b fun d => cf 298 (vc a.c0.c3 (vc d (vc a.c0.c2 V.nil))) b fun g i => ext 0 g fun j => ext 1 g fun m => sl0 j a fun n => sl1 m n fun o => c X.r o i
def F363_5 (a : H) (b : L8) (c : V) (d : KX) := part 0 true 1 (wI 3) (vc (wI 0) (vc (V.s 0 0) (vc (V.s 0 0) (vc (wI 0) (vc vN V.nil))))) fun g => resv 1 a fun i j => newA i false 5 107 (V.x .agg (vc (wI 0) (vc (V.s 0 0) (vc (V.s 0 0) (vc (wI 0) (vc vN V.nil))))) V.nil) j fun m n => sl4 m b fun o => st false 5 m (V.x .agg g V.nil) n fun p q => cf 365 (vc c (vc (V.s 1 36) V.nil)) q fun r s => sl2 r o fun t => seqM (F363_0 cf r c m) (seqM (F363_1 cf) (seqM (F363_2 cf) (seqM (F363_3 cf) (F363_4 cf)))) t s d
def F363_6 (a : V) : M := fun b c d => sl0 (wI 0) b fun g => sl1 (V.x .inil V.nil V.nil) g fun i => F363_5 cf c i a d
def T363 (cf : CallF) (lf : Nat) : V → H → KV → Bool := fun l h k => onCons l fun a b => onNil b ((F363_6 cf a) (⟨⟨V.u, V.u, V.u, a, V.u, V.u, V.u, V.u⟩, n8 V.u, n8 V.u, n8 V.u, n8 V.u, n8 V.u, n8 V.u, n8 V.u⟩ : L8) h fun x e h => finK (fun e h k => k (V.x .tup (vc e.c0.c0 (vc e.c0.c1 V.nil)) V.nil)) k x e h)
theorem e363 : FnEq Tryz.prog G LF OF 363 T363 := fun cf lf => by kernel_rfl
theorem c363 : chkF Tryz.prog LF OF 363 = true := by kernel_rfl
def F365_0 (a b : V) : M := fun c d g => cf 330 (vc a V.nil) d fun i j => neqS i b fun m => condV m (cf 364 (vc a V.nil) j fun n o => sl0 n c fun p => g X.r p o) (g X.n c j)
def F365_1 : M := fun a b c => nilckV a.c0.c1 fun d => fadV 1 d fun g => ld1 g b fun i => addW i (wI 1) fun j => nilckV a.c0.c1 fun m => fadV 1 m fun n => st true 1 n j b fun o p => sl0 (V.x .inil V.nil V.nil) a fun q => c X.r q p
def F365_2 (a b : V) : M := fun c d g => sl0 (V.x .inil V.nil V.nil) c fun i => seqM (F365_0 cf a b) (F365_1) i d g
def T365 (cf : CallF) (lf : Nat) : V → H → KV → Bool := fun l h k => onCons l fun a b => onCons b fun c d => onNil d ((F365_2 cf a c) (⟨⟨V.u, a, V.u, V.u, V.u, V.u, V.u, V.u⟩, n8 V.u, n8 V.u, n8 V.u, n8 V.u, n8 V.u, n8 V.u, n8 V.u⟩ : L8) h fun x e h => finK (fun e h k => k e.c0.c0) k x e h)
theorem e365 : FnEq Tryz.prog G LF OF 365 T365 := fun cf lf => by kernel_rfl
theorem c365 : chkF Tryz.prog LF OF 365 = true := by kernel_rfl
def F367_0 (a : V) : M := fun b c d => cf 360 (vc a (vc (V.s 3 3026478) V.nil)) c fun g i => notV g fun j => condV j (cf 380 (vc a V.nil) i fun m n => ext 0 m fun o => ext 1 m fun p => sl0 o b fun q => sl1 p q fun r => d X.r r n) (d X.n b i)
def F367_1 (a : L8) (b : H) (c : V) (d : KX) := nilckV a.c0.c2 fun g => fadV 1 g fun i => ld1 i b fun j => addW j (wI 1) fun m => nilckV a.c0.c2 fun n => fadV 1 n fun o => st true 1 o m b fun p q => cf 361 (vc a.c0.c2 V.nil) q fun r s => ext 0 r fun t => ext 1 r fun u => fadV 2 c fun v => st true 1 v t s fun w y => eqN nilI nots u (V.x .inil V.nil V.nil) fun a0 => condV a0 (sl0 (wI 0) a fun b0 => sl1 u b0 fun c0 => d X.r c0 y) (d X.n a y)
def F367_2 (a : V) (b : H) (c : V) (d : L8) (g : KX) := fadV 0 a fun i => st true 1 i (wI 7) b fun j m => fadV 1 a fun n => st true 1 n c m fun o p => cf 381 (vc d.c0.c2 V.nil) p fun q r => ext 0 q fun s => ext 1 q fun t => fadV 4 a fun u => st true 1 u s r fun v w => lda 5 a w fun y => cf 298 (vc d.c0.c2 (vc y (vc t V.nil))) w fun a0 b0 => ext 0 a0 fun c0 => ext 1 a0 fun d0 => sl0 c0 d fun g0 => sl1 d0 g0 fun i0 => g X.r i0 b0
def F367_3 (a b : V) : M := fun c d g => eqlS a (V.s 2 28271) fun i => condV i (F367_1 cf c d b g) (cf 138 (vc a V.nil) d fun j m => condV j (nilckV c.c0.c2 fun n => fadV 1 n fun o => ld1 o m fun p => addW p (wI 1) fun q => nilckV c.c0.c2 fun r => fadV 1 r fun s => st true 1 s q m fun t u => F367_2 cf b u a c g) (g X.n c m))
def F367_4 (a : V) : M := fun b c d => cf 330 (vc b.c0.c2 V.nil) c fun g i => blockM 0 (F367_3 cf g a) b i d
def F367_5 : M := fun a b c => cf 382 (vc a.c0.c2 (vc (V.t true) V.nil)) b fun d g => ext 0 d fun i => ext 1 d fun j => fadV 4 a.c0.c3 fun m => st true 1 m i g fun n o => lda 5 a.c0.c3 o fun p => cf 298 (vc a.c0.c2 (vc p (vc j V.nil))) o fun q r => ext 0 q fun s => ext 1 q fun t => sl0 s a fun u => sl1 t u fun v => c X.r v r
def F367_6 : M := fun a b c => part 0 true 1 (wI 8) (vc (wI 0) (vc (V.s 0 0) (vc (V.s 0 0) (vc (wI 0) (vc vN V.nil))))) fun d => resv 1 b fun g i => newA g false 5 107 (V.x .agg (vc (wI 0) (vc (V.s 0 0) (vc (V.s 0 0) (vc (wI 0) (vc vN V.nil))))) V.nil) i fun j m => sl3 j a fun n => st false 5 j (V.x .agg d V.nil) m fun o p => seqM (F367_4 cf j) (F367_5 cf) n p c
def F367_7 (a : V) : M := fun b c d => sl0 (wI 0) b fun g => sl1 (V.x .inil V.nil V.nil) g fun i => seqM (F367_0 cf a) (F367_6 cf) i c d
def T367 (cf : CallF) (lf : Nat) : V → H → KV → Bool := fun l h k => onCons l fun a b => onNil b ((F367_7 cf a) (⟨⟨V.u, V.u, a, V.u, V.u, V.u, V.u, V.u⟩, n8 V.u, n8 V.u, n8 V.u, n8 V.u, n8 V.u, n8 V.u, n8 V.u⟩ : L8) h fun x e h => finK (fun e h k => k (V.x .tup (vc e.c0.c0 (vc e.c0.c1 V.nil)) V.nil)) k x e h)
theorem e367 : FnEq Tryz.prog G LF OF 367 T367 := fun cf lf => by kernel_rfl
theorem c367 : chkF Tryz.prog LF OF 367 = true := by kernel_rfl
def F370_0 (a b : V) : M := fun c d g => resv 1 d fun i j => newA i false 5 107 a j fun m n => sl0 (V.t false) c fun o => fadV 1 m fun p => ld1 p n fun q => fadV 1 b fun r => ld1 r n fun s => eqlS q s fun t => sl0 t o fun u => g X.r u n
def T370 (cf : CallF) (lf : Nat) : V → H → KV → Bool := fun l h k => onCons l fun a b => onCons b fun c d => onNil d ((F370_0 a c) (⟨n8 V.u, n8 V.u, n8 V.u, n8 V.u, n8 V.u, n8 V.u, n8 V.u, n8 V.u⟩ : L8) h fun x e h => finK (fun e h k => k e.c0.c0) k x e h)
theorem e370 : FnEq Tryz.prog G LF OF 370 T370 := fun cf lf => by kernel_rfl
theorem c370 : chkF Tryz.prog LF OF 370 = true := by kernel_rfl
def F380_0 (a : V) : M := fun b c d => eqN nilI nots a (V.x .inil V.nil V.nil) fun g => condV g (sl0 (wI 0) b fun i => sl1 a i fun j => d X.r j c) (d X.n b c)
def F380_1 : M := fun a b c => cf 360 (vc a.c0.c4 (vc (V.s 1 58) V.nil)) b fun d g => condV d (fadV 2 a.c0.c3 fun i => st true 1 i a.c0.c2 g fun j m => cf 361 (vc a.c0.c4 V.nil) m fun n o => ext 0 n fun p => ext 1 n fun q => fadV 1 a.c0.c3 fun r => st true 1 r p o fun s t => eqN nilI nots q (V.x .inil V.nil V.nil) fun u => condV u (sl0 (wI 0) a fun v => sl1 q v fun w => c X.r w t) (c X.n a t)) (c X.n a g)
def F380_2 : M := fun a b c => cf 388 (vc a.c0.c4 V.nil) b fun d g => ext 0 d fun i => ext 1 d fun j => fadV 4 a.c0.c3 fun m => st true 1 m i g fun n o => eqN nilI nots j (V.x .inil V.nil V.nil) fun p => condV p (sl0 (wI 0) a fun q => sl1 j q fun r => c X.r r o) (c X.n a o)
def F380_3 : M := fun a b c => cf 382 (vc a.c0.c4 (vc (V.t false) V.nil)) b fun d g => ext 0 d fun i => ext 1 d fun j => fadV 4 a.c0.c3 fun m => ld1 m g fun n => app 1 3 n i g fun o p => fadV 4 a.c0.c3 fun q => st true 1 q o p fun r s => lda 5 a.c0.c3 s fun t => cf 298 (vc a.c0.c4 (vc t (vc j V.nil))) s fun u v => ext 0 u fun w => ext 1 u fun y => sl0 w a fun a0 => sl1 y a0 fun b0 => c X.r b0 v
def F380_4 : M := fun a b c => fadV 1 a.c0.c3 fun d => st true 1 d a.c0.c2 b fun g i => seqM (F380_1 cf) (seqM (F380_2 cf) (F380_3 cf)) a i c
def F380_5 (a : H) (b : L8) (c : V) (d : KX) := part 0 true 1 (wI 4) (vc (wI 0) (vc (V.s 0 0) (vc (V.s 0 0) (vc (wI 0) (vc vN V.nil))))) fun g => resv 1 a fun i j => newA i false 5 107 (V.x .agg (vc (wI 0) (vc (V.s 0 0) (vc (V.s 0 0) (vc (wI 0) (vc vN V.nil))))) V.nil) j fun m n => sl3 m b fun o => st false 5 m (V.x .agg g V.nil) n fun p q => cf 361 (vc c V.nil) q fun r s => ext 0 r fun t => ext 1 r fun u => sl2 t o fun v => seqM (F380_0 u) (F380_4 cf) v s d
def F380_6 (a : V) : M := fun b c d => sl0 (wI 0) b fun g => sl1 (V.x .inil V.nil V.nil) g fun i => F380_5 cf c i a d
def T380 (cf : CallF) (lf : Nat) : V → H → KV → Bool := fun l h k => onCons l fun a b => onNil b ((F380_6 cf a) (⟨⟨V.u, V.u, V.u, V.u, a, V.u, V.u, V.u⟩, n8 V.u, n8 V.u, n8 V.u, n8 V.u, n8 V.u, n8 V.u, n8 V.u⟩ : L8) h fun x e h => finK (fun e h k => k (V.x .tup (vc e.c0.c0 (vc e.c0.c1 V.nil)) V.nil)) k x e h)
theorem e380 : FnEq Tryz.prog G LF OF 380 T380 := fun cf lf => by kernel_rfl
theorem c380 : chkF Tryz.prog LF OF 380 = true := by kernel_rfl
def F381_0 : M := fun a b c => cf 360 (vc a.c0.c2 (vc (V.s 1 64) V.nil)) b fun d g => condV d (c X.n a g) (c (X.x 0) a g)
def F381_1 (a : V) : M := fun b c d => eqN nilI nots a (V.x .inil V.nil V.nil) fun g => condV g (sl0 vN b fun i => sl1 a i fun j => d X.r j c) (d X.n b c)
def F381_2 (a : V) : M := fun b c d => eqN nilI nots a (V.x .inil V.nil V.nil) fun g => condV g (cf 297 (vc (V.s 9 1871653630383947409764) (vc a V.nil)) c fun i j => sl0 vN b fun m => sl1 i m fun n => d X.r n j) (d X.n b c)
def F381_3 : M := fun a b c => resv 1 b fun d g => part 0 true 1 a.c0.c4 (vc (wI 0) V.nil) fun i => bslA d 1 1 3 i g fun j m => app 1 3 a.c0.c0 j m fun n o => sl0 n a fun p => c X.n p o
def F381_4 (a : L8) (b c : V) (d : H) (g : KX) := part 0 true 1 (wI 6) (vc (wI 0) (vc (V.s 0 0) (vc (V.s 0 0) (vc (wI 0) (vc vN V.nil))))) fun i => part 1 true 1 a.c0.c3 i fun j => part 4 true 1 b j fun m => cf 298 (vc a.c0.c2 (vc (V.x .agg m V.nil) (vc c V.nil))) d fun n o => ext 0 n fun p => ext 1 n fun q => sl4 p a fun r => seqM (F381_2 cf q) (F381_3) r o g
def F381_5 : M := fun a b c => cf 388 (vc a.c0.c2 V.nil) b fun d g => ext 0 d fun i => ext 1 d fun j => F381_4 cf a i j g c
def F381_6 : M := fun a b c => cf 361 (vc a.c0.c2 V.nil) b fun d g => ext 0 d fun i => ext 1 d fun j => sl3 i a fun m => seqM (F381_1 j) (F381_5 cf) m g c
def F381_7 : M := fun a b c => sl0 a.c0.c0 a fun d => sl1 (V.x .inil V.nil V.nil) d fun g => c X.r g b
def F381_8 : M := fun a b c => sl0 vN a fun d => sl1 (V.x .inil V.nil V.nil) d fun g => seqM (blockM 0 (loopM lf (seqM (F381_0 cf) (blockM 1 (F381_6 cf))))) (F381_7) g b c
def T381 (cf : CallF) (lf : Nat) : V → H → KV → Bool := fun l h k => onCons l fun a b => onNil b ((F381_8 cf lf) (⟨⟨V.u, V.u, a, V.u, V.u, V.u, V.u, V.u⟩, n8 V.u, n8 V.u, n8 V.u, n8 V.u, n8 V.u, n8 V.u, n8 V.u⟩ : L8) h fun x e h => finK (fun e h k => k (V.x .tup (vc e.c0.c0 (vc e.c0.c1 V.nil)) V.nil)) k x e h)
theorem e381 : FnEq Tryz.prog G LF OF 381 T381 := fun cf lf => by kernel_rfl
theorem c381 : chkF Tryz.prog LF OF 381 = true := by kernel_rfl
def F382_0 (a b c d : V) : M := fun g i j => eqN nilI nots a (V.x .inil V.nil V.nil) fun m => guardF m i (fun n => n b i) fun o p => guardF m p (fun q => notV o fun r => q r p) fun s t => guardF m t (fun u => u s t) fun v w => guardT v w (fun y => y c w) fun a0 b0 => guardT v b0 (fun c0 => cf 330 (vc a0 V.nil) b0 fun d0 g0 => c0 d0 g0) fun i0 j0 => guardT v j0 (fun m0 => neqS i0 (V.s 1 123) fun n0 => m0 n0 j0) fun o0 p0 => guardF m p0 (fun q0 => pickV v o0 (V.t false) fun r0 => q0 r0 p0) fun s0 t0 => pickV m (V.t true) s0 fun u0 => condV u0 (sl0 d g fun v0 => sl1 a v0 fun w0 => j X.r w0 t0) (j X.n g t0)
def F382_1 : M := fun a b c => cf 333 (vc a.c0.c2 V.nil) b fun d g => ext 0 d fun i => ext 1 d fun j => app 1 3 a.c0.c3 i g fun m n => sl0 m a fun o => sl1 j o fun p => c X.r p n
def F382_2 (a b : V) : M := fun c d g => sl0 vN c fun i => sl1 (V.x .inil V.nil V.nil) i fun j => cf 381 (vc a V.nil) d fun m n => ext 0 m fun o => ext 1 m fun p => sl3 o j fun q => seqM (F382_0 cf p b a o) (F382_1 cf) q n g
def T382 (cf : CallF) (lf : Nat) : V → H → KV → Bool := fun l h k => onCons l fun a b => onCons b fun c d => onNil d ((F382_2 cf a c) (⟨⟨V.u, V.u, a, V.u, V.u, V.u, V.u, V.u⟩, n8 V.u, n8 V.u, n8 V.u, n8 V.u, n8 V.u, n8 V.u, n8 V.u⟩ : L8) h fun x e h => finK (fun e h k => k (V.x .tup (vc e.c0.c0 (vc e.c0.c1 V.nil)) V.nil)) k x e h)
theorem e382 : FnEq Tryz.prog G LF OF 382 T382 := fun cf lf => by kernel_rfl
theorem c382 : chkF Tryz.prog LF OF 382 = true := by kernel_rfl
def F388_0 (a : V) : M := fun b c d => cf 360 (vc a (vc (V.s 1 40) V.nil)) c fun g i => notV g fun j => condV j (sl0 vN b fun m => sl1 (V.x .inil V.nil V.nil) m fun n => d X.r n i) (d X.n b i)
def F388_1 : M := fun a b c => cf 362 (vc a.c0.c2 (vc (V.s 1 41) (vc (V.x (.func 391) (vc a.c0.c2 V.nil) V.nil) V.nil))) b fun d g => ext 0 d fun i => ext 1 d fun j => cf 297 (vc (V.s 9 2129765323153231802977) (vc j V.nil)) g fun m n => sl0 i a fun o => sl1 m o fun p => c X.r p n
def F388_2 (a : V) : M := fun b c d => sl0 vN b fun g => sl1 (V.x .inil V.nil V.nil) g fun i => seqM (F388_0 cf a) (F388_1 cf) i c d
def T388 (cf : CallF) (lf : Nat) : V → H → KV → Bool := fun l h k => onCons l fun a b => onNil b ((F388_2 cf a) (⟨⟨V.u, V.u, a, V.u, V.u, V.u, V.u, V.u⟩, n8 V.u, n8 V.u, n8 V.u, n8 V.u, n8 V.u, n8 V.u, n8 V.u⟩ : L8) h fun x e h => finK (fun e h k => k (V.x .tup (vc e.c0.c0 (vc e.c0.c1 V.nil)) V.nil)) k x e h)
theorem e388 : FnEq Tryz.prog G LF OF 388 T388 := fun cf lf => by kernel_rfl
theorem c388 : chkF Tryz.prog LF OF 388 = true := by kernel_rfl
def F391_0 (a : V) : M := fun b c d => eqN nilI nots a (V.x .inil V.nil V.nil) fun g => condV g (sl0 (wI 0) b fun i => sl1 a i fun j => d X.r j c) (d X.n b c)
def F391_1 : M := fun a b c => cf 365 (vc a.c0.c2 (vc (V.s 1 58) V.nil)) b fun d g => eqN nilI nots d (V.x .inil V.nil V.nil) fun i => condV i (sl0 (wI 0) a fun j => sl1 d j fun m => c X.r m g) (c X.n a g)
def F391_2 (a : H) (b : V) (c : L8) (d : V) (g : KX) := resv 1 a fun i j => part 0 true 1 b (vc (wI 0) V.nil) fun m => bslA i 1 1 3 m j fun n o => part 0 true 1 (wI 5) (vc (wI 0) (vc (V.s 0 0) (vc (V.s 0 0) (vc (wI 0) (vc vN V.nil))))) fun p => part 1 true 1 c.c0.c3 p fun q => part 4 true 1 n q fun r => cf 298 (vc c.c0.c2 (vc (V.x .agg r V.nil) (vc d V.nil))) o fun s t => ext 0 s fun u => ext 1 s fun v => sl0 u c fun w => sl1 v w fun y => g X.r y t
def F391_3 : M := fun a b c => cf 392 (vc a.c0.c2 V.nil) b fun d g => ext 0 d fun i => ext 1 d fun j => F391_2 cf g i a j c
def F391_4 (a : V) : M := fun b c d => sl0 (wI 0) b fun g => sl1 (V.x .inil V.nil V.nil) g fun i => cf 361 (vc a V.nil) c fun j m => ext 0 j fun n => ext 1 j fun o => sl3 n i fun p => seqM (F391_0 o) (seqM (F391_1 cf) (F391_3 cf)) p m d
def T391 (cf : CallF) (lf : Nat) : V → H → KV → Bool := fun l h k => onCons l fun a b => onNil b ((F391_4 cf a) (⟨⟨V.u, V.u, a, V.u, V.u, V.u, V.u, V.u⟩, n8 V.u, n8 V.u, n8 V.u, n8 V.u, n8 V.u, n8 V.u, n8 V.u⟩ : L8) h fun x e h => finK (fun e h k => k (V.x .tup (vc e.c0.c0 (vc e.c0.c1 V.nil)) V.nil)) k x e h)
theorem e391 : FnEq Tryz.prog G LF OF 391 T391 := fun cf lf => by kernel_rfl
theorem c391 : chkF Tryz.prog LF OF 391 = true := by kernel_rfl
end
end Go.Bvm.YtfcknednlkfmpaaGreatDoorTP
