/- The functions that this law reaches, as the abstract machine's terms, each held against the program by the kernel. Printed by a program of this session's. Conditions: none. -/
import Derived.Test.YtbabneakocnnoaaGreatDoorTE0
set_option linter.unusedVariables false
set_option maxRecDepth 100000
namespace Go.Bvm.YtbabneakocnnoaaGreatDoorTE
open Go.Proofs
noncomputable section
variable (cf : CallF) (lf : Nat)
def F3_0 (a : V) (b : H) (c : L8) (d : KX) : Bool := guardT a b (fun g => resv 1 b fun i j => part 0 true 1 (V.s 0 0) (vc (V.s 0 0) (vc (V.s 0 0) (vc (V.s 0 0) (vc (V.s 0 0) (vc (V.s 0 0) (vc (V.s 0 0) (vc (V.s 0 0) (vc (V.s 0 0) (vc (V.s 0 0) (vc (V.s 0 0) (vc (V.s 0 0) (vc (V.s 0 0) (vc (V.s 0 0) (vc (V.s 0 0) (vc (V.s 0 0) (vc (V.s 0 0) (vc (V.s 0 0) (vc (V.s 0 0) (vc (V.s 0 0) (vc (V.s 0 0) (vc (V.s 0 0) (vc (V.s 0 0) (vc (V.s 0 0) (vc (V.s 0 0) (vc (V.s 0 0) (vc (V.s 0 0) (vc (V.s 0 0) (vc (V.s 0 0) (vc (V.s 0 0) (vc (V.s 0 0) (vc (V.s 0 0) (vc (V.s 0 0) (vc (V.s 0 0) (vc (V.s 0 0) (vc (V.s 0 0) (vc (V.s 0 0) (vc (V.s 0 0) (vc (V.s 0 0) (vc (V.s 0 0) (vc (V.s 0 0) (vc (V.s 0 0) (vc (V.s 0 0) (vc (V.s 0 0) (vc (V.s 0 0) (vc (V.s 0 0) (vc (V.s 0 0) (vc (V.s 0 0) (vc (V.s 0 0) (vc (V.s 0 0) (vc (V.s 0 0) (vc (V.s 0 0) (vc (V.s 0 0) (vc (V.s 0 0) (vc (V.s 0 0) V.nil)))))))))))))))))))))))))))))))))))))))))))))))))))))) fun m => part 1 true 1 (V.s 1 123) m fun n => part 2 true 1 (V.s 2 32123) n fun o => part 3 true 1 (V.s 1 125) o fun p => part 4 true 1 (V.s 2 24955) p fun q => part 5 true 1 (V.s 3 8216955) q fun r => part 6 true 1 (V.s 5 521610294641) r fun s => part 7 true 1 (V.s 8 9034638089022436721) s fun t => part 8 true 1 (V.s 10 592094025949501611930993) t fun u => part 9 true 1 (V.s 11 151576073907883083857950061) u fun v => part 10 true 1 (V.s 22 46910521176519680223212980877307864069207564488045933) v fun w => part 11 true 1 (V.s 10 592094019202898263897457) w fun y => part 12 true 1 (V.s 12 38803473646564416831913031025) y fun a0 => part 13 true 1 (V.s 13 9933689252805461988401310168433) a0 fun b0 => part 14 true 1 (V.s 18 10922206839660984686236499657694237969184113) b0 fun c0 => part 15 true 1 (V.s 21 183244223364418372768756067289827871046602498340209) c0 fun d0 => part 16 true 1 (V.s 18 10922207083684753554698552248179658569380454) d0 fun g0 => part 17 true 1 (V.s 19 2796085013423296910012872299951424206322889318) g0 fun i0 => part 18 true 1 (V.s 15 651014273386245690683810850720019046) i0 fun j0 => part 19 true 1 (V.s 16 166659655754263492113946409981676974694) j0 fun m0 => part 20 true 1 (V.s 5 538518905211) m0 fun n0 => part 21 true 1 (V.s 7 35293474496078203) n0 fun o0 => part 22 true 1 (V.s 4 2100978043) o0 fun p0 => part 23 true 1 (V.s 4 2103523963) p0 fun q0 => part 24 true 1 (V.s 5 537561424251) q0 fun r0 => part 25 true 1 (V.s 6 137616693944699) r0 fun s0 => part 26 true 1 (V.s 7 35229702820487547) s0 fun t0 => part 27 true 1 (V.s 8 9018793855610806651) t0 fun u0 => part 28 true 1 (V.s 13 9916330263349926112646396404091) u0 fun v0 => part 29 true 1 (V.s 9 2308832690432022962555) v0 fun w0 => part 30 true 1 (V.s 10 591058842114553442492795) w0 fun y0 => part 31 true 1 (V.s 9 2308828455113232769403) y0 fun a1 => part 32 true 1 (V.s 26 201127275244100151030562512307134493492911906611883379295543675) a1 fun b1 => part 33 true 1 (V.s 5 537645690491) b1 fun c1 => part 34 true 1 (V.s 7 35305795884035707) c1 fun d1 => part 35 true 1 (V.s 9 2312193206112081555067) d1 fun g1 => part 36 true 1 (V.s 12 38837202299968518557684084347) g1 fun i1 => part 37 true 1 (V.s 8 9042490808513474171) i1 fun j1 => part 38 true 1 (V.s 6 137877814914683) j1 fun m1 => part 39 true 1 (V.s 20 714547015212171216061302335084118171771923738235) m1 fun n1 => part 40 true 1 (V.s 23 12019533395698461611792665841171376500162007323108060795) n1 fun o1 => part 41 true 1 (V.s 5 538519298427) o1 fun p1 => part 42 true 1 (V.s 7 35229625512649083) p1 fun q1 => part 43 true 1 (V.s 4 2101371259) q1 fun r1 => part 44 true 1 (V.s 5 538976149883) r1 fun s1 => part 45 true 1 (V.s 6 137977476637051) s1 fun t1 => part 46 true 1 (V.s 6 137861932081531) t1 fun u1 => part 47 true 1 (V.s 4 2021482875) u1 fun v1 => part 48 true 1 (V.s 15 651014280290436762839285367872583027) v1 fun w1 => part 49 true 1 (V.s 4 2104389499) w1 fun y1 => part 50 true 1 (V.s 25 787492602502505850670613874074104196769200842521528883310971) y1 fun a2 => part 51 true 1 (V.s 9 2308811212571885986171) a2 fun b2 => part 52 true 1 (V.s 10 591054610638556388417915) b2 fun c2 => part 53 true 1 (V.s 30 865695627923309920182247510689611410847039314198110015528099266364011110) c2 fun d2 => bslA i 54 1 9 d2 j fun g2 i2 => g g2 i2) fun j2 m2 => guardT a m2 (fun n2 => cf 7 (vc j2 V.nil) m2 fun o2 p2 => n2 o2 p2) fun q2 r2 => pickV a q2 (V.t false) fun s2 => sl0 s2 c fun t2 => d X.r t2 r2
def F3_1 (a : V) : M := fun b c d => resv 1 c fun g i => newA g false 3 28 a i fun j m => sl0 (V.t false) b fun n => fadV 2 j fun o => ld1 o m fun p => lenL p fun q => geqV q (wI 0) fun r => F3_0 cf r m n d
def T3 (cf : CallF) (lf : Nat) : V → H → KV → Bool := fun l h k => onCons l fun a b => onNil b ((F3_1 cf a) (⟨n8 V.u, n8 V.u, n8 V.u, n8 V.u, n8 V.u, n8 V.u, n8 V.u, n8 V.u⟩ : L8) h fun x e h => finK (fun e h k => k e.c0.c0) k x e h)
theorem e3 : FnEq Tryz.prog G LF OF 3 T3 := fun cf lf => by kernel_rfl
theorem c3 : chkF Tryz.prog LF OF 3 = true := by kernel_rfl
def F4_0 : M := fun a b c => lssW a.c0.c1 (wI 12) fun d => condV d (c X.n a b) (c (X.x 0) a b)
def F4_1 (a : V) (b : H) (c d : V) (g : L8) (i : KX) : Bool := catV a (V.s 1 123) fun j => resv 1 b fun m n => part 0 true 1 c (vc (V.s 0 0) (vc (V.s 0 0) (vc (V.s 0 0) (vc (V.s 0 0) V.nil)))) fun o => part 1 true 1 d o fun p => part 2 true 1 j p fun q => part 3 true 1 a q fun r => bslA m 4 1 9 r n fun s t => app 1 9 g.c0.c4 s t fun u v => sl4 u g fun w => i X.n w v
def F4_2 (a : V) (b : L8) (c : V) (d : H) (g : KX) : Bool := sl2 a b fun i => sl3 c i fun j => catV a c fun m => catV a (V.s 10 592112479167452487233070) fun n => catV n c fun o => F4_1 a d m o j g
def F4_3 : M := fun a b c => catV a.c0.c2 (V.s 2 24955) fun d => catV (V.s 1 125) a.c0.c3 fun g => F4_2 d a g b c
def F4_4 : M := fun a b c => addW a.c0.c1 (wI 1) fun d => sl1 d a fun g => c X.n g b
def F4_5 : M := fun a b c => sl1 (wI 1) a fun d => blockM 0 (loopM lf (seqM (F4_0) (seqM (blockM 1 (F4_3)) (F4_4)))) d b c
def F4_6 : M := fun a b c => lssW a.c0.c5 (wI 303) fun d => condV d (c X.n a b) (c (X.x 2) a b)
def F4_7 (a : H) (b c : V) (d : L8) (g : KX) : Bool := resv 1 a fun i j => part 0 true 1 b (vc (V.s 0 0) (vc (V.s 0 0) V.nil)) fun m => part 1 true 1 c m fun n => bslA i 2 1 9 n j fun o p => app 1 9 d.c0.c4 o p fun q r => sl4 q d fun s => g X.n s r
def F4_8 : M := fun a b c => catV a.c0.c6 (V.s 2 24864) fun d => sl6 d a fun g => gtrW g.c0.c5 (wI 293) fun i => condV i (catV d (V.s 1 125) fun j => F4_7 b j d g c) (c X.n g b)
def F4_9 : M := fun a b c => addW a.c0.c5 (wI 1) fun d => sl5 d a fun g => c X.n g b
def F4_10 : M := fun a b c => sl5 (wI 0) a fun d => blockM 2 (loopM lf (seqM (F4_6) (seqM (blockM 3 (F4_8)) (F4_9)))) d b c
def F4_11 (a : V) (b : H) (c : L8) (d : KX) : Bool := guardT a b (fun g => g c.c0.c4 b) fun i j => guardT a j (fun m => cf 7 (vc i V.nil) j fun n o => m n o) fun p q => pickV a p (V.t false) fun r => sl0 r c fun s => d X.r s q
def F4_12 : M := fun a b c => fadV 2 a.c0.c7 fun d => ld1 d b fun g => lenL g fun i => geqV i (wI 0) fun j => F4_11 cf j b a c
def F4_13 (a : L8) (b : H) (c : KX) : Bool := sl4 (V.x .slnil V.nil V.nil) a fun d => sl2 (V.s 0 0) d fun g => sl3 (V.s 0 0) g fun i => sl6 (V.s 2 24955) i fun j => seqM (F4_5 lf) (seqM (F4_10 lf) (F4_12 cf)) j b c
def F4_14 (a : V) : M := fun b c d => resv 1 c fun g i => newA g false 3 28 a i fun j m => sl7 j b fun n => sl0 (V.t false) n fun o => F4_13 cf lf o m d
def T4 (cf : CallF) (lf : Nat) : V → H → KV → Bool := fun l h k => onCons l fun a b => onNil b ((F4_14 cf lf a) (⟨n8 V.u, n8 V.u, n8 V.u, n8 V.u, n8 V.u, n8 V.u, n8 V.u, n8 V.u⟩ : L8) h fun x e h => finK (fun e h k => k e.c0.c0) k x e h)
theorem e4 : FnEq Tryz.prog G LF OF 4 T4 := fun cf lf => by kernel_rfl
theorem c4 : chkF Tryz.prog LF OF 4 = true := by kernel_rfl
def F7_0 : M := fun a b c => lenL a.c0.c2 fun d => lssW a.c0.c1 d fun g => condV g (c X.n a b) (c (X.x 0) a b)
def F7_1 (a : V) (b : H) (c d : V) (g : L8) (i : KX) : Bool := guardF a b (fun j => cf 21 (vc c (vc d V.nil)) b fun m n => j m n) fun o p => guardF a p (fun q => notV o fun r => q r p) fun s t => pickV a (V.t true) s fun u => condV u (sl0 (V.t false) g fun v => i X.r v t) (i X.n g t)
def F7_2 (a b : V) (c : H) (d g : V) (i : L8) (j : KX) : Bool := pickV a (V.t true) b fun m => guardF m c (fun n => n d c) fun o p => guardF m p (fun q => q g p) fun r s => F7_1 cf m s o r i j
def F7_3 (a : V) (b : H) (c d g i : V) (j : L8) (m : KX) : Bool := guardF a b (fun n => n c b) fun o p => guardF a p (fun q => q d p) fun r s => guardF a s (fun t => neqW o r fun u => t u s) fun v w => F7_2 cf a v w g i j m
def F7_4 (a : V) (b : H) (c d g : V) (i : L8) (j : KX) : Bool := cf 19 (vc a V.nil) b fun m n => ext 0 m fun o => ext 1 m fun p => ext 2 m fun q => cf 20 (vc c V.nil) n fun r s => neqW r q fun t => F7_3 cf t s d p g o i j
def F7_5 (a : V) (b : H) (c : L8) (d : KX) : Bool := cf 18 (vc a V.nil) b fun g i => ext 0 g fun j => ext 1 g fun m => ext 2 g fun n => iadV 1 c.c0.c2 c.c0.c1 fun o => ld1 o i fun p => F7_4 cf p i n m j c d
def F7_6 : M := fun a b c => iadV 1 a.c0.c2 a.c0.c1 fun d => ld1 d b fun g => F7_5 cf g b a c
def F7_7 : M := fun a b c => addW a.c0.c1 (wI 1) fun d => sl1 d a fun g => c X.n g b
def F7_8 : M := fun a b c => sl1 (wI 0) a fun d => blockM 0 (loopM lf (seqM (F7_0) (seqM (blockM 1 (F7_6 cf)) (F7_7)))) d b c
def F7_9 : M := fun a b c => cf 22 V.nil b fun d g => sl0 d a fun i => c X.r i g
def F7_10 : M := fun a b c => sl0 (V.t false) a fun d => seqM (F7_8 cf lf) (F7_9 cf) d b c
def T7 (cf : CallF) (lf : Nat) : V → H → KV → Bool := fun l h k => onCons l fun a b => onNil b ((F7_10 cf lf) (⟨⟨V.u, V.u, a, V.u, V.u, V.u, V.u, V.u⟩, n8 V.u, n8 V.u, n8 V.u, n8 V.u, n8 V.u, n8 V.u, n8 V.u⟩ : L8) h fun x e h => finK (fun e h k => k e.c0.c0) k x e h)
theorem e7 : FnEq Tryz.prog G LF OF 7 T7 := fun cf lf => by kernel_rfl
theorem c7 : chkF Tryz.prog LF OF 7 = true := by kernel_rfl
def F18_0 (a b : V) : M := fun c d g => neqW a (wI 0) fun i => condV i (sl0 (V.x .slnil V.nil V.nil) c fun j => sl1 b j fun m => sl2 a m fun n => g X.r n d) (g X.n c d)
def F18_1 (a : V) (b : H) (c : L8) (d : V) (g : KX) : Bool := ld1 a b fun i => nilckV i fun j => fadV 0 j fun m => ld1 m b fun n => sl0 (V.x .slnil V.nil V.nil) c fun o => sl1 d o fun p => sl2 n p fun q => g X.r q b
def F18_2 (a : V) (b : H) (c : V) (d : L8) (g : KX) : Bool := condV a (resv 0 b fun i j => ld1 c j fun m => nilckV m fun n => fadV 1 n fun o => ld1 o j fun p => F18_1 c j d p g) (g X.n d b)
def F18_3 (a b : V) : M := fun c d g => cf 47 (vc a V.nil) d fun i j => cf 46 (vc i (vc (V.x (.iface 100) b V.nil) V.nil)) j fun m n => F18_2 m n b c g
def F18_4 : M := fun a b c => nilckV a.c0.c5 fun d => fadV 3 d fun g => ld1 g b fun i => sl0 i a fun j => sl1 (wI 0) j fun m => sl2 (wI 0) m fun n => c X.r n b
def F18_5 (a : H) (b : V) (c : L8) (d : KX) : Bool := resv 1 a fun g i => newA g false 5 94 (V.x .agg b V.nil) i fun j m => sl5 j c fun n => resv 1 m fun o p => newA o true 1 95 (V.x .pnil V.nil V.nil) p fun q r => seqM (F18_3 cf j q) (F18_4) n r d
def F18_6 : M := fun a b c => lenS a.c0.c4 fun d => part 0 true 1 a.c0.c3 (vc (V.x .slnil V.nil V.nil) (vc (wI 0) (vc (wI 0) (vc (V.x .slnil V.nil V.nil) (vc (wI 0) V.nil))))) fun g => part 2 true 1 d g fun i => F18_5 cf b i a c
def F18_7 (a : V) (b : H) (c : L8) (d : KX) : Bool := cf 45 (vc a V.nil) b fun g i => ext 0 g fun j => ext 1 g fun m => ext 2 g fun n => sl3 j c fun o => sl1 m o fun p => sl2 n p fun q => seqM (F18_0 n m) (F18_6 cf) q i d
def F18_8 (a : V) : M := fun b c d => sl0 (V.x .slnil V.nil V.nil) b fun g => sl1 (wI 0) g fun i => sl2 (wI 0) i fun j => F18_7 cf a c j d
def T18 (cf : CallF) (lf : Nat) : V → H → KV → Bool := fun l h k => onCons l fun a b => onNil b ((F18_8 cf a) (⟨⟨V.u, V.u, V.u, V.u, a, V.u, V.u, V.u⟩, n8 V.u, n8 V.u, n8 V.u, n8 V.u, n8 V.u, n8 V.u, n8 V.u⟩ : L8) h fun x e h => finK (fun e h k => k (V.x .tup (vc e.c0.c0 (vc e.c0.c1 (vc e.c0.c2 V.nil))) V.nil)) k x e h)
theorem e18 : FnEq Tryz.prog G LF OF 18 T18 := fun cf lf => by kernel_rfl
theorem c18 : chkF Tryz.prog LF OF 18 = true := by kernel_rfl
def F19_0 (a b : V) : M := fun c d g => neqW a (wI 0) fun i => condV i (sl0 (V.x .slnil V.nil V.nil) c fun j => sl1 b j fun m => sl2 a m fun n => g X.r n d) (g X.n c d)
def F19_1 (a : V) (b : H) (c d g : V) (i : KX) (j : L8) : Bool := guardF a b (fun m => lenL c fun n => m n b) fun o p => guardF a p (fun q => lssW d o fun r => q r p) fun s t => guardT g t (fun u => pickV a (V.t true) s fun v => u v t) fun w y => pickV g w (V.t false) fun a0 => condV a0 (i X.n j y) (i (X.x 0) j y)
def F19_2 (a : V) (b : H) (c : V) (d : L8) (g : V) (i : KX) : Bool := guardF a b (fun j => nilckV c fun m => j m b) fun n o => guardF a o (fun p => fadV 2 n fun q => p q o) fun r s => guardF a s (fun t => ld1 r s fun u => t u s) fun v w => guardF a w (fun y => y d.c0.c3 w) fun a0 b0 => F19_1 a b0 a0 v g i d
def F19_3 (a : V) (b : H) (c : V) (d : L8) (g : KX) : Bool := guardT a b (fun i => lenL c fun j => i j b) fun m n => guardT a n (fun o => eqlW m (wI 0) fun p => o p n) fun q r => guardT a r (fun s => s q r) fun t u => guardF t u (fun v => v d.c0.c5 u) fun w y => F19_2 t y w d a g
def F19_4 (a : V) (b : H) (c : L8) (d : KX) : Bool := eqlW a (wI 0) fun g => guardT g b (fun i => fadV 4 c.c0.c6 fun j => i j b) fun m n => guardT g n (fun o => ld1 m n fun p => o p n) fun q r => F19_3 g r q c d
def F19_5 : M := fun a b c => nilckV a.c0.c5 fun d => fadV 6 d fun g => ld1 g b fun i => F19_4 i b a c
def F19_6 (a : V) (b : Nat) (c : H) (d : V) (g : L8) (i : KX) : Bool := part 0 true 1 a (vc (wI 0) V.nil) fun j => bslA (Nat.add b 0) 1 1 3 j c fun m n => app 1 3 d m n fun o p => fadV 4 g.c0.c6 fun q => st true 1 q o p fun r s => i X.n g s
def F19_7 : M := fun a b c => resv 1 b fun d g => fadV 4 a.c0.c6 fun i => ld1 i g fun j => cf 49 (vc a.c0.c5 V.nil) g fun m n => ld1 i n fun o => both (eqV o j) (F19_6 m d n j a c)
def F19_8 (a : V) (b : L8) (c : H) (d : KX) : Bool := condV a (lda 5 b.c0.c6 c fun g => cf 50 (vc b.c0.c5 (vc g V.nil)) c fun i j => d X.n b j) (d X.n b c)
def F19_9 : M := fun a b c => nilckV a.c0.c5 fun d => fadV 6 d fun g => ld1 g b fun i => eqlW i (wI 0) fun j => F19_8 cf j a b c
def F19_10 (a : L8) (b : H) (c : V) (d : KX) : Bool := nilckV a.c0.c5 fun g => fadV 6 g fun i => ld1 i b fun j => sl0 (V.x .slnil V.nil V.nil) a fun m => sl1 c m fun n => sl2 j n fun o => d X.r o b
def F19_11 (a : V) (b : H) (c : L8) (d : KX) : Bool := condV a (resv 0 b fun g i => nilckV c.c0.c5 fun j => fadV 5 j fun m => ld1 m i fun n => F19_10 c i n d) (d X.n c b)
def F19_12 : M := fun a b c => nilckV a.c0.c5 fun d => fadV 6 d fun g => ld1 g b fun i => neqW i (wI 0) fun j => F19_11 j b a c
def F19_13 : M := fun a b c => nilckV a.c0.c5 fun d => fadV 3 d fun g => ld1 g b fun i => sl0 i a fun j => sl1 (wI 0) j fun m => sl2 (wI 0) m fun n => c X.r n b
def F19_14 (a : H) (b : L8) (c : KX) : Bool := part 0 true 1 (wI 1) (vc (wI 0) (vc (V.s 0 0) (vc (V.s 0 0) (vc (wI 0) (vc (V.x .slnil V.nil V.nil) V.nil))))) fun d => resv 1 a fun g i => newA g false 5 109 (V.x .agg (vc (wI 0) (vc (V.s 0 0) (vc (V.s 0 0) (vc (wI 0) (vc (V.x .slnil V.nil V.nil) V.nil))))) V.nil) i fun j m => sl6 j b fun n => st false 5 j (V.x .agg d V.nil) m fun o p => seqM (blockM 0 (loopM lf (seqM (F19_5) (blockM 1 (F19_7 cf))))) (seqM (F19_9 cf) (seqM (F19_12) (F19_13))) n p c
def F19_15 : M := fun a b c => lenS a.c0.c4 fun d => part 0 true 1 a.c0.c3 (vc (V.x .slnil V.nil V.nil) (vc (wI 0) (vc (wI 0) (vc (V.x .slnil V.nil V.nil) (vc (wI 0) (vc (wI 0) (vc (wI 0) V.nil))))))) fun g => part 1 true 1 d g fun i => resv 1 b fun j m => newA j false 7 107 (V.x .agg i V.nil) m fun n o => sl5 n a fun p => F19_14 cf lf o p c
def F19_16 (a : V) (b : H) (c : L8) (d : KX) : Bool := cf 48 (vc a V.nil) b fun g i => ext 0 g fun j => ext 1 g fun m => ext 2 g fun n => sl3 j c fun o => seqM (F19_0 n m) (F19_15 cf lf) o i d
def F19_17 (a : V) : M := fun b c d => sl0 (V.x .slnil V.nil V.nil) b fun g => sl1 (wI 0) g fun i => sl2 (wI 0) i fun j => F19_16 cf lf a c j d
def T19 (cf : CallF) (lf : Nat) : V → H → KV → Bool := fun l h k => onCons l fun a b => onNil b ((F19_17 cf lf a) (⟨⟨V.u, V.u, V.u, V.u, a, V.u, V.u, V.u⟩, n8 V.u, n8 V.u, n8 V.u, n8 V.u, n8 V.u, n8 V.u, n8 V.u⟩ : L8) h fun x e h => finK (fun e h k => k (V.x .tup (vc e.c0.c0 (vc e.c0.c1 (vc e.c0.c2 V.nil))) V.nil)) k x e h)
theorem e19 : FnEq Tryz.prog G LF OF 19 T19 := fun cf lf => by kernel_rfl
theorem c19 : chkF Tryz.prog LF OF 19 = true := by kernel_rfl
def F20_0 (a : V) : M := fun b c d => sl0 (wI 0) b fun g => sl0 a g fun i => d X.r i c
def T20 (cf : CallF) (lf : Nat) : V → H → KV → Bool := fun l h k => onCons l fun a b => onNil b ((F20_0 a) (⟨n8 V.u, n8 V.u, n8 V.u, n8 V.u, n8 V.u, n8 V.u, n8 V.u, n8 V.u⟩ : L8) h fun x e h => finK (fun e h k => k e.c0.c0) k x e h)
theorem e20 : FnEq Tryz.prog G LF OF 20 T20 := fun cf lf => by kernel_rfl
theorem c20 : chkF Tryz.prog LF OF 20 = true := by kernel_rfl
def F21_0 (a b : V) : M := fun c d g => lenL a fun i => lenL b fun j => neqW i j fun m => condV m (sl0 (V.t false) c fun n => g X.r n d) (g X.n c d)
def F21_1 : M := fun a b c => lenL a.c0.c2 fun d => lssW a.c0.c1 d fun g => condV g (c X.n a b) (c (X.x 0) a b)
def F21_2 (a : L8) (b : H) (c : V) (d : KX) : Bool := iadV 5 a.c0.c3 a.c0.c1 fun g => lda 5 g b fun i => cf 51 (vc c (vc i V.nil)) b fun j m => notV j fun n => condV n (sl0 (V.t false) a fun o => d X.r o m) (d X.n a m)
def F21_3 : M := fun a b c => resv 0 b fun d g => iadV 5 a.c0.c2 a.c0.c1 fun i => lda 5 i g fun j => F21_2 cf a g j c
def F21_4 : M := fun a b c => addW a.c0.c1 (wI 1) fun d => sl1 d a fun g => c X.n g b
def F21_5 : M := fun a b c => sl1 (wI 0) a fun d => blockM 0 (loopM lf (seqM (F21_1) (seqM (blockM 1 (F21_3 cf)) (F21_4)))) d b c
def F21_6 : M := fun a b c => sl0 (V.t true) a fun d => c X.r d b
def F21_7 (a b : V) : M := fun c d g => sl0 (V.t false) c fun i => seqM (F21_0 a b) (seqM (F21_5 cf lf) (F21_6)) i d g
def T21 (cf : CallF) (lf : Nat) : V → H → KV → Bool := fun l h k => onCons l fun a b => onCons b fun c d => onNil d ((F21_7 cf lf a c) (⟨⟨V.u, V.u, a, c, V.u, V.u, V.u, V.u⟩, n8 V.u, n8 V.u, n8 V.u, n8 V.u, n8 V.u, n8 V.u, n8 V.u⟩ : L8) h fun x e h => finK (fun e h k => k e.c0.c0) k x e h)
theorem e21 : FnEq Tryz.prog G LF OF 21 T21 := fun cf lf => by kernel_rfl
theorem c21 : chkF Tryz.prog LF OF 21 = true := by kernel_rfl
def F22_0 (a b : V) (c : H) (d : V) (g : L8) (i : KX) : Bool := pickV a b (V.t false) fun j => guardT j c (fun m => m d c) fun n o => guardT j o (fun p => eqlS n (V.s 5 537414148219) fun q => p q o) fun r s => pickV j r (V.t false) fun t => sl0 t g fun u => i X.r u s
def F22_1 (a : V) (b : H) (c d : V) (g : L8) (i : KX) : Bool := guardT a b (fun j => j c b) fun m n => guardT a n (fun o => lenL m fun p => o p n) fun q r => guardT a r (fun s => eqlW q (wI 3) fun t => s t r) fun u v => F22_0 a u v d g i
def F22_2 (a : V) (b : H) (c d g : V) (i : L8) (j : KX) : Bool := guardT a b (fun m => m c b) fun n o => guardT a o (fun p => cf 20 (vc n V.nil) o fun q r => p q r) fun s t => guardT a t (fun u => eqlW s (wI 0) fun v => u v t) fun w y => pickV a w (V.t false) fun a0 => F22_1 a0 y d g i j
def F22_3 (a : V) (b : H) (c : V) (d : L8) (g : KX) : Bool := cf 52 (vc a V.nil) b fun i j => ext 0 i fun m => ext 1 i fun n => cf 20 (vc c V.nil) j fun o p => eqlW o (wI 0) fun q => F22_2 cf q p n a m d g
def F22_4 : M := fun a b c => sl0 (V.t false) a fun d => cf 18 (vc (V.s 3 8216955) V.nil) b fun g i => ext 0 g fun j => ext 1 g fun m => ext 2 g fun n => F22_3 cf j i n d c
def T22 (cf : CallF) (lf : Nat) : V → H → KV → Bool := fun l h k => onNil l ((F22_4 cf) (⟨n8 V.u, n8 V.u, n8 V.u, n8 V.u, n8 V.u, n8 V.u, n8 V.u, n8 V.u⟩ : L8) h fun x e h => finK (fun e h k => k e.c0.c0) k x e h)
theorem e22 : FnEq Tryz.prog G LF OF 22 T22 := fun cf lf => by kernel_rfl
theorem c22 : chkF Tryz.prog LF OF 22 = true := by kernel_rfl
def F45_0 (a : V) (b : L8) (c : KX) (d : H) : Bool := condV a (sl0 (V.x .slnil V.nil V.nil) b fun g => sl1 (wI 0) g fun i => sl2 (wI 2) i fun j => c X.r j d) (c X.n b d)
def F45_1 (a : V) : M := fun b c d => lenS a fun g => gtrW g (wI 3000) fun i => F45_0 i b d c
def F45_2 : M := fun a b c => lenS a.c0.c4 fun d => lssW a.c0.c3 d fun g => condV g (c X.n a b) (c (X.x 0) a b)
def F45_3 : M := fun a b c => sstr (some a.c0.c3) none a.c0.c4 fun d => cf 76 (vc d V.nil) b fun g i => gtrW g (wI 0) fun j => condV j (addW a.c0.c3 g fun m => sl3 m a fun n => c (X.x 1) n i) (c X.n a i)
def F45_4 (a : V) (b : L8) (c : KX) (d : H) : Bool := condV a (sl0 (V.x .slnil V.nil V.nil) b fun g => sl1 b.c0.c3 g fun i => sl2 (wI 4) i fun j => c X.r j d) (c X.n b d)
def F45_5 (a : V) : M := fun b c d => eqlW a (wI 0) fun g => F45_4 g b d c
def F45_6 (a : V) (b : L8) (c : H) (d : KX) : Bool := part 0 true 1 a (vc (V.s 0 0) (vc (wI 0) V.nil)) fun g => part 1 true 1 b.c0.c3 g fun i => resv 1 c fun j m => part 0 false 2 (V.x .agg i V.nil) (vc (V.s 0 0) (vc (wI 0) V.nil)) fun n => bslA j 1 2 143 n m fun o p => app 2 143 b.c0.c0 o p fun q r => sl0 q b fun s => addW s.c0.c3 s.c0.c5 fun t => sl3 t s fun u => d X.n u r
def F45_7 : M := fun a b c => addW a.c0.c3 a.c0.c5 fun d => sstr (some a.c0.c3) (some d) a.c0.c4 fun g => F45_6 g a b c
def F45_8 : M := fun a b c => sstr (some a.c0.c3) none a.c0.c4 fun d => cf 77 (vc d V.nil) b fun g i => sl5 g a fun j => seqM (F45_5 g) (F45_7) j i c
def F45_9 : M := fun a b c => sl3 (wI 0) a fun d => blockM 0 (loopM lf (seqM (F45_2) (blockM 1 (seqM (F45_3 cf) (F45_8 cf))))) d b c
def F45_10 : M := fun a b c => sl0 a.c0.c0 a fun d => sl1 (wI 0) d fun g => sl2 (wI 0) g fun i => c X.r i b
def F45_11 (a : V) : M := fun b c d => sl0 (V.x .slnil V.nil V.nil) b fun g => sl1 (wI 0) g fun i => sl2 (wI 0) i fun j => seqM (F45_1 a) (seqM (F45_9 cf lf) (F45_10)) j c d
def T45 (cf : CallF) (lf : Nat) : V → H → KV → Bool := fun l h k => onCons l fun a b => onNil b ((F45_11 cf lf a) (⟨⟨V.u, V.u, V.u, V.u, a, V.u, V.u, V.u⟩, n8 V.u, n8 V.u, n8 V.u, n8 V.u, n8 V.u, n8 V.u, n8 V.u⟩ : L8) h fun x e h => finK (fun e h k => k (V.x .tup (vc e.c0.c0 (vc e.c0.c1 (vc e.c0.c2 V.nil))) V.nil)) k x e h)
theorem e45 : FnEq Tryz.prog G LF OF 45 T45 := fun cf lf => by kernel_rfl
theorem c45 : chkF Tryz.prog LF OF 45 = true := by kernel_rfl
def F47_0 (a : V) (b : H) (c d : V) (g : KX) (i : L8) : Bool := guardF a b (fun j => ld1 c b fun m => j m b) fun n o => guardF a o (fun p => lenL n fun q => p q o) fun r s => guardF a s (fun t => lssW d r fun u => t u s) fun v w => pickV a (V.t true) v fun y => condV y (g X.n i w) (g (X.x 0) i w)
def F47_1 (a : V) (b : H) (c : V) (d : L8) (g : KX) : Bool := guardF a b (fun i => ld1 c b fun j => i j b) fun m n => guardF a n (fun o => o d.c0.c2 n) fun p q => guardF a q (fun r => nilckV p fun s => r s q) fun t u => guardF a u (fun v => fadV 0 t fun w => v w u) fun y a0 => F47_0 a a0 y m g d
def F47_2 (a : V) (b : H) (c : L8) (d : KX) : Bool := guardF a b (fun g => g c.c0.c2 b) fun i j => guardF a j (fun m => nilckV i fun n => m n j) fun o p => guardF a p (fun q => fadV 1 o fun r => q r p) fun s t => F47_1 a t s c d
def F47_3 : M := fun a b c => resv 0 b fun d g => fadV 4 a.c0.c1 fun i => ld1 i g fun j => lenL j fun m => eqlW m (wI 0) fun n => F47_2 n g a c
def F47_4 (a b : V) (c : H) (d : L8) (g : KX) : Bool := condV a (cf 83 (vc (V.s 10 521515500522236950242660) (vc b V.nil)) c fun i j => sl0 i d fun m => g X.r m j) (g X.n d c)
def F47_5 (a : V) : M := fun b c d => eqN nilI nots a (V.x .inil V.nil V.nil) fun g => F47_4 cf g a c b d
def F47_6 : M := fun a b c => fadV 4 a.c0.c1 fun d => ld1 d b fun g => resv 1 b fun i j => part 0 true 1 a.c0.c3 (vc (wI 0) V.nil) fun m => bslA i 1 1 3 m j fun n o => app 1 3 g n o fun p q => fadV 4 a.c0.c1 fun r => st true 1 r p q fun s t => c X.n a t
def F47_7 : M := fun a b c => cf 82 (vc a.c0.c2 V.nil) b fun d g => ext 0 d fun i => ext 1 d fun j => sl3 i a fun m => seqM (F47_5 cf j) (F47_6) m g c
def F47_8 : M := fun a b c => lda 5 a.c0.c1 b fun d => cf 84 (vc a.c0.c2 (vc d (vc (V.x .inil V.nil V.nil) V.nil))) b fun g i => ext 0 g fun j => ext 1 g fun m => sl0 m a fun n => c X.r n i
def F47_9 (a : H) (b : L8) (c : KX) : Bool := part 0 true 1 (wI 1) (vc (wI 0) (vc (V.s 0 0) (vc (V.s 0 0) (vc (wI 0) (vc (V.x .slnil V.nil V.nil) V.nil))))) fun d => resv 1 a fun g i => newA g false 5 109 (V.x .agg (vc (wI 0) (vc (V.s 0 0) (vc (V.s 0 0) (vc (wI 0) (vc (V.x .slnil V.nil V.nil) V.nil))))) V.nil) i fun j m => sl1 j b fun n => st false 5 j (V.x .agg d V.nil) m fun o p => seqM (blockM 0 (loopM lf (seqM (F47_3) (blockM 1 (F47_7 cf))))) (F47_8 cf) n p c
def F47_10 : M := fun a b c => sl0 (V.x .inil V.nil V.nil) a fun d => F47_9 cf lf b d c
def T47 (cf : CallF) (lf : Nat) : V → H → KV → Bool := fun l h k => onCons l fun a b => onNil b ((F47_10 cf lf) (⟨⟨V.u, V.u, a, V.u, V.u, V.u, V.u, V.u⟩, n8 V.u, n8 V.u, n8 V.u, n8 V.u, n8 V.u, n8 V.u, n8 V.u⟩ : L8) h fun x e h => finK (fun e h k => k e.c0.c0) k x e h)
theorem e47 : FnEq Tryz.prog G LF OF 47 T47 := fun cf lf => by kernel_rfl
theorem c47 : chkF Tryz.prog LF OF 47 = true := by kernel_rfl
def F48_0 (a : V) (b : L8) (c : KX) (d : H) : Bool := condV a (sl0 (V.x .slnil V.nil V.nil) b fun g => sl1 (wI 0) g fun i => sl2 (wI 2) i fun j => c X.r j d) (c X.n b d)
def F48_1 (a : V) : M := fun b c d => lenS a fun g => gtrW g (wI 3000) fun i => F48_0 i b d c
def F48_2 : M := fun a b c => lenS a.c0.c4 fun d => lssW a.c0.c3 d fun g => condV g (c X.n a b) (c (X.x 0) a b)
def F48_3 (a : V) (b : H) (c : V) (d : L8) (g : KX) : Bool := guardF a b (fun i => eqlY c (V.y 13) fun j => i j b) fun m n => pickV a (V.t true) m fun o => condV o (addW d.c0.c3 (wI 1) fun p => sl3 p d fun q => g (X.x 1) q n) (g X.n d n)
def F48_4 (a : V) (b : H) (c d : V) (g : L8) (i : KX) : Bool := guardF a b (fun j => eqlY c (V.y 10) fun m => j m b) fun n o => pickV a (V.t true) n fun p => guardF p o (fun q => q d o) fun r s => F48_3 p s r g i
def F48_5 (a : V) (b : H) (c d : V) (g : L8) (i : KX) : Bool := guardF a b (fun j => eqlY c (V.y 9) fun m => j m b) fun n o => pickV a (V.t true) n fun p => guardF p o (fun q => q d o) fun r s => F48_4 p s r d g i
def F48_6 (a : V) (b : H) (c d : V) (g : L8) (i : KX) : Bool := guardF a b (fun j => eqlY c (V.y 44) fun m => j m b) fun n o => pickV a (V.t true) n fun p => guardF p o (fun q => q d o) fun r s => F48_5 p s r d g i
def F48_7 (a : V) : M := fun b c d => eqlY a (V.y 32) fun g => guardF g c (fun i => i a c) fun j m => F48_6 g m j a b d
def F48_8 (a : V) (b : H) (c : L8) (d : V) (g : KX) : Bool := guardT a b (fun i => i c.c0.c3 b) fun j m => guardT a m (fun n => sidxV d j fun o => n o m) fun p q => guardT a q (fun r => neqY p (V.y 13) fun s => r s q) fun t u => pickV a t (V.t false) fun v => condV v (g X.n c u) (g (X.x 2) c u)
def F48_9 (a : V) (b : H) (c : V) (d : L8) (g : KX) : Bool := guardT a b (fun i => neqY c (V.y 10) fun j => i j b) fun m n => pickV a m (V.t false) fun o => guardT o n (fun p => p d.c0.c4 n) fun q r => F48_8 o r d q g
def F48_10 (a : V) (b : H) (c : L8) (d : KX) : Bool := guardT a b (fun g => g c.c0.c4 b) fun i j => guardT a j (fun m => m c.c0.c3 j) fun n o => guardT a o (fun p => sidxV i n fun q => p q o) fun r s => F48_9 a s r c d
def F48_11 : M := fun a b c => lenS a.c0.c4 fun d => lssW a.c0.c3 d fun g => F48_10 g b a c
def F48_12 : M := fun a b c => addW a.c0.c3 (wI 1) fun d => sl3 d a fun g => c X.n g b
def F48_13 : M := fun a b c => c (X.x 1) a b
def F48_14 : M := fun a b c => eqlY a.c0.c5 (V.y 35) fun d => condV d (seqM (blockM 2 (loopM lf (seqM (F48_11) (blockM 3 (F48_12))))) (F48_13) a b c) (c X.n a b)
def F48_15 (a : V) (b : L8) (c : KX) (d : H) : Bool := condV a (sl0 (V.x .slnil V.nil V.nil) b fun g => sl1 b.c0.c3 g fun i => sl2 (wI 4) i fun j => c X.r j d) (c X.n b d)
def F48_16 (a : V) : M := fun b c d => eqlW a (wI 0) fun g => F48_15 g b d c
def F48_17 (a : V) (b : L8) (c : H) (d : KX) : Bool := part 0 true 1 a (vc (V.s 0 0) (vc (wI 0) V.nil)) fun g => part 1 true 1 b.c0.c3 g fun i => resv 1 c fun j m => part 0 false 2 (V.x .agg i V.nil) (vc (V.s 0 0) (vc (wI 0) V.nil)) fun n => bslA j 1 2 143 n m fun o p => app 2 143 b.c0.c6 o p fun q r => sl6 q b fun s => addW s.c0.c3 s.c0.c7 fun t => sl3 t s fun u => d X.n u r
def F48_18 : M := fun a b c => addW a.c0.c3 a.c0.c7 fun d => sstr (some a.c0.c3) (some d) a.c0.c4 fun g => F48_17 g a b c
def F48_19 : M := fun a b c => sstr (some a.c0.c3) none a.c0.c4 fun d => cf 85 (vc d V.nil) b fun g i => sl7 g a fun j => seqM (F48_16 g) (F48_18) j i c
def F48_20 : M := fun a b c => sidxV a.c0.c4 a.c0.c3 fun d => sl5 d a fun g => seqM (F48_7 d) (seqM (F48_14 lf) (F48_19 cf)) g b c
def F48_21 : M := fun a b c => sl3 (wI 0) a fun d => blockM 0 (loopM lf (seqM (F48_2) (blockM 1 (F48_20 cf lf)))) d b c
def F48_22 : M := fun a b c => sl0 a.c0.c6 a fun d => sl1 (wI 0) d fun g => sl2 (wI 0) g fun i => c X.r i b
def F48_23 : M := fun a b c => sl6 (V.x .slnil V.nil V.nil) a fun d => seqM (F48_21 cf lf) (F48_22) d b c
def F48_24 (a : V) : M := fun b c d => sl0 (V.x .slnil V.nil V.nil) b fun g => sl1 (wI 0) g fun i => sl2 (wI 0) i fun j => seqM (F48_1 a) (F48_23 cf lf) j c d
def T48 (cf : CallF) (lf : Nat) : V → H → KV → Bool := fun l h k => onCons l fun a b => onNil b ((F48_24 cf lf a) (⟨⟨V.u, V.u, V.u, V.u, a, V.u, V.u, V.u⟩, n8 V.u, n8 V.u, n8 V.u, n8 V.u, n8 V.u, n8 V.u, n8 V.u⟩ : L8) h fun x e h => finK (fun e h k => k (V.x .tup (vc e.c0.c0 (vc e.c0.c1 (vc e.c0.c2 V.nil))) V.nil)) k x e h)
theorem e48 : FnEq Tryz.prog G LF OF 48 T48 := fun cf lf => by kernel_rfl
theorem c48 : chkF Tryz.prog LF OF 48 = true := by kernel_rfl
def F49_0 (a : V) (b : H) (c : KX) (d : L8) : Bool := cf 88 (vc a V.nil) b fun g i => cf 87 (vc a (vc (wI 4) (vc g V.nil))) i fun j m => c X.n d m
def F49_1 (a : V) : M := fun b c d => cf 86 (vc a V.nil) c fun g i => eqlS g (V.s 2 28271) fun j => condV j (F49_0 cf a i d b) (d X.n b i)
def F49_2 (a : L8) (b : H) (c : KX) : Bool := cf 90 (vc a.c0.c1 (vc (V.s 2 28271) V.nil)) b fun d g => cf 89 (vc a.c0.c1 V.nil) g fun i j => fadV 2 a.c0.c2 fun m => st true 1 m i j fun n o => c X.n a o
def F49_3 : M := fun a b c => cf 89 (vc a.c0.c1 V.nil) b fun d g => fadV 1 a.c0.c2 fun i => st true 1 i d g fun j m => F49_2 cf a m c
def F49_4 (a b : V) (c : H) (d : V) (g : L8) (i : KX) : Bool := addW a (wI 1) fun j => nilckV b fun m => fadV 2 m fun n => st true 1 n j c fun o p => fadV 0 d fun q => st true 1 q (wI 9) p fun r s => seqM (F49_1 cf b) (F49_3 cf) g s i
def F49_5 (a : V) : M := fun b c d => eqlS a (V.s 5 521610294641) fun g => sl3 g b fun i => condV g (d X.n i c) (eqlS a (V.s 8 7957695015159100781) fun j => sl3 j i fun m => d X.n m c)
def F49_6 : M := fun a b c => eqlS a.c0.c4 (V.s 8 7957695015159100781) fun d => condV d (fadV 3 a.c0.c2 fun g => st true 1 g (wI 1) b fun i j => c X.n a j) (c X.n a b)
def F49_7 (a : V) (b : L8) (c : H) (d : KX) : Bool := condV a (cf 89 (vc b.c0.c1 V.nil) c fun g i => fadV 1 b.c0.c2 fun j => st true 1 j g i fun m n => d X.n b n) (d X.n b c)
def F49_8 : M := fun a b c => cf 86 (vc a.c0.c1 V.nil) b fun d g => cf 65 (vc d V.nil) g fun i j => F49_7 cf i a j c
def F49_9 (a : V) (b : H) (c d : V) (g : KX) (i : L8) : Bool := guardF a b (fun j => cf 86 (vc c V.nil) b fun m n => j m n) fun o p => guardF a p (fun q => neqS o (V.s 1 41) fun r => q r p) fun s t => guardT d t (fun u => pickV a (V.t true) s fun v => u v t) fun w y => pickV d w (V.t false) fun a0 => condV a0 (g X.n i y) (g (X.x 1) i y)
def F49_10 (a : V) (b : H) (c : V) (d : L8) (g : KX) : Bool := guardT a b (fun i => lenL c fun j => i j b) fun m n => guardT a n (fun o => eqlW m (wI 0) fun p => o p n) fun q r => guardT a r (fun s => s q r) fun t u => guardF t u (fun v => v d.c0.c1 u) fun w y => F49_9 cf t y w a g d
def F49_11 (a : V) (b : H) (c : L8) (d : KX) : Bool := eqlW a (wI 0) fun g => guardT g b (fun i => fadV 4 c.c0.c2 fun j => i j b) fun m n => guardT g n (fun o => ld1 m n fun p => o p n) fun q r => F49_10 cf g r q c d
def F49_12 : M := fun a b c => nilckV a.c0.c1 fun d => fadV 6 d fun g => ld1 g b fun i => F49_11 cf i b a c
def F49_13 (a : V) (b : L8) (c : H) (d : V) (g : KX) : Bool := addW a (wI 1) fun i => nilckV b.c0.c1 fun j => fadV 2 j fun m => st true 1 m i c fun n o => fadV 3 d fun p => st true 1 p (wI 1) o fun q r => g X.n b r
def F49_14 (a : V) (b : H) (c : V) (d : L8) (g : V) (i : KX) : Bool := guardT a b (fun j => eqlS c (V.s 1 33) fun m => j m b) fun n o => pickV a n (V.t false) fun p => condV p (nilckV d.c0.c1 fun q => fadV 2 q fun r => ld1 r o fun s => F49_13 s d o g i) (i X.n d o)
def F49_15 (a : V) (b : H) (c : L8) (d : V) (g : KX) : Bool := eqlW a (wI 0) fun i => guardT i b (fun j => j c.c0.c1 b) fun m n => guardT i n (fun o => cf 86 (vc m V.nil) n fun p q => o p q) fun r s => F49_14 i s r c d g
def F49_16 (a : V) : M := fun b c d => nilckV b.c0.c1 fun g => fadV 6 g fun i => ld1 i c fun j => F49_15 cf j c b a d
def F49_17 (a : L8) (b : V) (c : H) (d g : V) (i : Nat) (j : KX) : Bool := cf 50 (vc a.c0.c1 (vc b V.nil)) c fun m n => ld1 d n fun o => both (eqV o g) (part 0 true 1 m (vc (wI 0) V.nil) fun p => bslA (Nat.add i 0) 1 1 3 p n fun q r => app 1 3 g q r fun s t => fadV 4 a.c0.c2 fun u => st true 1 u s t fun v w => j X.n a w)
def F49_18 (a : H) (b : L8) (c : KX) : Bool := resv 1 a fun d g => fadV 4 b.c0.c2 fun i => ld1 i g fun j => lda 5 b.c0.c5 g fun m => F49_17 cf b m g i j d c
def F49_19 : M := fun a b c => nilckV a.c0.c1 fun d => fadV 6 d fun g => ld1 g b fun i => eqlW i (wI 0) fun j => condV j (F49_18 cf b a c) (c X.n a b)
def F49_20 (a : L8) (b : H) (c : V) (d : KX) : Bool := cf 89 (vc a.c0.c1 V.nil) b fun g i => fadV 2 c fun j => st true 1 j g i fun m n => seqM (F49_16 cf c) (F49_19 cf) a n d
def F49_21 (a b : V) (c : H) (d : L8) (g : KX) : Bool := st false 5 a (V.x .agg b V.nil) c fun i j => cf 90 (vc d.c0.c1 (vc (V.s 1 58) V.nil)) j fun m n => F49_20 cf d n a g
def F49_22 (a : L8) (b : H) (c : KX) : Bool := cf 89 (vc a.c0.c1 V.nil) b fun d g => part 0 true 1 (wI 3) (vc (wI 0) (vc (V.s 0 0) (vc (V.s 0 0) (vc (wI 0) (vc (V.x .slnil V.nil V.nil) V.nil))))) fun i => part 1 true 1 d i fun j => resv 1 g fun m n => newA m false 5 109 (V.x .agg (vc (wI 0) (vc (V.s 0 0) (vc (V.s 0 0) (vc (wI 0) (vc (V.x .slnil V.nil V.nil) V.nil))))) V.nil) n fun o p => sl5 o a fun q => F49_21 cf o j p q c
def F49_23 : M := fun a b c => cf 90 (vc a.c0.c1 (vc (V.s 1 36) V.nil)) b fun d g => F49_22 cf a g c
def F49_24 : M := fun a b c => cf 90 (vc a.c0.c1 (vc (V.s 1 41) V.nil)) b fun d g => c X.n a g
def F49_25 (a : V) (b : L8) (c : H) (d : KX) : Bool := addW a (wI 1) fun g => nilckV b.c0.c1 fun i => fadV 2 i fun j => st true 1 j g c fun m n => seqM (blockM 1 (loopM lf (seqM (F49_12 cf) (blockM 2 (F49_23 cf))))) (F49_24 cf) b n d
def F49_26 : M := fun a b c => cf 86 (vc a.c0.c1 V.nil) b fun d g => eqlS d (V.s 1 40) fun i => condV i (nilckV a.c0.c1 fun j => fadV 2 j fun m => ld1 m g fun n => F49_25 cf lf n a g c) (c X.n a g)
def F49_27 (a : V) (b : L8) (c : H) (d : KX) : Bool := addW a (wI 1) fun g => nilckV b.c0.c1 fun i => fadV 2 i fun j => st true 1 j g c fun m n => seqM (F49_6) (seqM (F49_8 cf) (F49_26 cf lf)) b n d
def F49_28 (a : L8) (b : H) (c : KX) : Bool := cf 88 (vc a.c0.c1 V.nil) b fun d g => cf 87 (vc a.c0.c1 (vc (wI 4) (vc d V.nil))) g fun i j => c X.n a j
def F49_29 : M := fun a b c => condV a.c0.c3 (nilckV a.c0.c1 fun d => fadV 2 d fun g => ld1 g b fun i => F49_27 cf lf i a b c) (F49_28 cf a b c)
def F49_30 (a b : V) (c : H) (d : V) (g : L8) (i : KX) (j : V) : Bool := condV a (nilckV b fun m => fadV 2 m fun n => ld1 n c fun o => F49_4 cf o b c d g i) (seqM (F49_5 j) (F49_29 cf lf) g c i)
def F49_31 (a b c : V) : M := fun d g i => eqlS a (V.s 1 123) fun j => condV j (i X.n d g) (eqlS a (V.s 8 8389754676398092902) fun m => F49_30 cf lf m b g c d i a)
def F49_32 (a b c : V) : M := fun d g i => blockM 0 (F49_31 cf lf a b c) d g i
def F49_33 : M := fun a b c => nilckV a.c0.c1 fun d => fadV 6 d fun g => ld1 g b fun i => neqW i (wI 0) fun j => condV j (sl0 (wI 0) a fun m => c X.r m b) (c X.n a b)
def F49_34 : M := fun a b c => lda 5 a.c0.c2 b fun d => cf 50 (vc a.c0.c1 (vc d V.nil)) b fun g i => sl0 g a fun j => c X.r j i
def F49_35 (a b : V) (c : H) (d : L8) (g : KX) : Bool := app 1 3 a b c fun i j => fadV 4 d.c0.c2 fun m => st true 1 m i j fun n o => seqM (F49_33) (F49_34 cf) d o g
def F49_36 : M := fun a b c => resv 0 b fun d g => fadV 4 a.c0.c2 fun i => ld1 i g fun j => cf 91 (vc a.c0.c1 V.nil) g fun m n => ld1 i n fun o => both (eqV o j) (F49_35 cf j m n a c)
def F49_37 (a : H) (b : L8) (c : V) (d : KX) : Bool := part 0 true 1 (wI 2) (vc (wI 0) (vc (V.s 0 0) (vc (V.s 0 0) (vc (wI 0) (vc (V.x .slnil V.nil V.nil) V.nil))))) fun g => resv 1 a fun i j => newA i false 5 109 (V.x .agg (vc (wI 0) (vc (V.s 0 0) (vc (V.s 0 0) (vc (wI 0) (vc (V.x .slnil V.nil V.nil) V.nil))))) V.nil) j fun m n => sl2 m b fun o => st false 5 m (V.x .agg g V.nil) n fun p q => cf 86 (vc c V.nil) q fun r s => sl4 r o fun t => seqM (F49_32 cf lf r c m) (F49_36 cf) t s d
def F49_38 (a : V) : M := fun b c d => sl0 (wI 0) b fun g => F49_37 cf lf c g a d
def T49 (cf : CallF) (lf : Nat) : V → H → KV → Bool := fun l h k => onCons l fun a b => onNil b ((F49_38 cf lf a) (⟨⟨V.u, a, V.u, V.u, V.u, V.u, V.u, V.u⟩, n8 V.u, n8 V.u, n8 V.u, n8 V.u, n8 V.u, n8 V.u, n8 V.u⟩ : L8) h fun x e h => finK (fun e h k => k e.c0.c0) k x e h)
theorem e49 : FnEq Tryz.prog G LF OF 49 T49 := fun cf lf => by kernel_rfl
theorem c49 : chkF Tryz.prog LF OF 49 = true := by kernel_rfl
def F50_0 (a b : V) (c : H) (d : V) (g : KX) (i : L8) : Bool := subW a (wI 1) fun j => iadV 2 b j fun m => fadV 1 m fun n => ld1 n c fun o => cf 87 (vc d (vc (wI 2) (vc o V.nil))) c fun p q => g X.n i q
def F50_1 (a : H) (b : V) (c : KX) (d : L8) : Bool := resv 0 a fun g i => nilckV b fun j => fadV 0 j fun m => ld1 m i fun n => nilckV b fun o => fadV 2 o fun p => ld1 p i fun q => F50_0 cf q n i b c d
def F50_2 (a : V) (b : H) (c d : V) (g : KX) (i : L8) : Bool := guardT a b (fun j => fadV 3 c fun m => j m b) fun n o => guardT a o (fun p => ld1 n o fun q => p q o) fun r s => guardT a s (fun t => lenL r fun u => t u s) fun v w => guardT a w (fun y => geqV v (wI 300) fun a0 => y a0 w) fun b0 c0 => pickV a b0 (V.t false) fun d0 => condV d0 (F50_1 cf c0 d g i) (g X.n i c0)
def F50_3 (a : V) (b : H) (c : V) (d : KX) (g : L8) : Bool := eqlW a (wI 0) fun i => guardT i b (fun j => j c b) fun m n => guardT i n (fun o => nilckV m fun p => o p n) fun q r => F50_2 cf i r q c d g
def F50_4 (a : V) : M := fun b c d => nilckV a fun g => fadV 6 g fun i => ld1 i c fun j => F50_3 cf j c a d b
def F50_5 (a : L8) (b : H) (c : KX) : Bool := nilckV a.c0.c1 fun d => fadV 3 d fun g => ld1 g b fun i => lenL i fun j => subW j (wI 1) fun m => sl0 m a fun n => c X.r n b
def F50_6 (a : L8) (b : H) (c : Nat) (d : V) (g : KX) : Bool := lda 5 a.c0.c2 b fun i => part 0 false 5 i (vc (wI 0) (vc (V.s 0 0) (vc (V.s 0 0) (vc (wI 0) (vc (V.x .slnil V.nil V.nil) V.nil))))) fun j => bslA (Nat.add c 0) 1 5 109 j b fun m n => app 5 109 d m n fun o p => nilckV a.c0.c1 fun q => fadV 3 q fun r => st true 1 r o p fun s t => F50_5 a t g
def F50_7 : M := fun a b c => resv 1 b fun d g => nilckV a.c0.c1 fun i => fadV 3 i fun j => ld1 j g fun m => F50_6 a g d m c
def F50_8 (a b : V) : M := fun c d g => resv 1 d fun i j => newA i false 5 109 a j fun m n => sl2 m c fun o => sl0 (wI 0) o fun p => seqM (F50_4 cf b) (F50_7) p n g
def T50 (cf : CallF) (lf : Nat) : V → H → KV → Bool := fun l h k => onCons l fun a b => onCons b fun c d => onNil d ((F50_8 cf c a) (⟨⟨V.u, a, V.u, V.u, V.u, V.u, V.u, V.u⟩, n8 V.u, n8 V.u, n8 V.u, n8 V.u, n8 V.u, n8 V.u, n8 V.u⟩ : L8) h fun x e h => finK (fun e h k => k e.c0.c0) k x e h)
theorem e50 : FnEq Tryz.prog G LF OF 50 T50 := fun cf lf => by kernel_rfl
theorem c50 : chkF Tryz.prog LF OF 50 = true := by kernel_rfl
def F51_0 (a : V) (b : H) (c d : V) (g : L8) (i : KX) : Bool := guardT a b (fun j => ld1 c b fun m => j m b) fun n o => guardT a o (fun p => fadV 4 d fun q => p q o) fun r s => guardT a s (fun t => ld1 r s fun u => t u s) fun v w => guardT a w (fun y => cf 92 (vc n (vc v V.nil)) w fun a0 b0 => y a0 b0) fun c0 d0 => pickV a c0 (V.t false) fun g0 => sl0 g0 g fun i0 => i X.r i0 d0
def F51_1 (a : V) (b : H) (c d g i : V) (j : L8) (m : KX) : Bool := guardT a b (fun n => eqlW c d fun o => n o b) fun p q => pickV a p (V.t false) fun r => guardT r q (fun s => fadV 4 g fun t => s t q) fun u v => F51_0 cf r v u i j m
def F51_2 (a : V) (b : H) (c d : V) (g : L8) (i : KX) : Bool := guardT a b (fun j => fadV 3 c fun m => j m b) fun n o => guardT a o (fun p => ld1 n o fun q => p q o) fun r s => guardT a s (fun t => fadV 3 d fun u => t u s) fun v w => guardT a w (fun y => ld1 v w fun a0 => y a0 w) fun b0 c0 => F51_1 cf a c0 r b0 c d g i
def F51_3 (a : V) (b : H) (c d g i : V) (j : L8) (m : KX) : Bool := guardT a b (fun n => ld1 c b fun o => n o b) fun p q => guardT a q (fun r => eqlS d p fun s => r s q) fun t u => pickV a t (V.t false) fun v => F51_2 cf v u g i j m
def F51_4 (a : V) (b : H) (c d : V) (g : L8) (i : KX) : Bool := guardT a b (fun j => fadV 2 c fun m => j m b) fun n o => guardT a o (fun p => ld1 n o fun q => p q o) fun r s => guardT a s (fun t => fadV 2 d fun u => t u s) fun v w => F51_3 cf a w v r c d g i
def F51_5 (a : V) (b : H) (c d g : V) (i : L8) (j : KX) : Bool := guardT a b (fun m => fadV 1 c fun n => m n b) fun o p => guardT a p (fun q => ld1 o p fun r => q r p) fun s t => guardT a t (fun u => eqlS d s fun v => u v t) fun w y => pickV a w (V.t false) fun a0 => F51_4 cf a0 y g c i j
def F51_6 (a b : V) (c : H) (d g : V) (i : L8) (j : KX) : Bool := eqlW a b fun m => guardT m c (fun n => fadV 1 d fun o => n o c) fun p q => guardT m q (fun r => ld1 p q fun s => r s q) fun t u => F51_5 cf m u g t d i j
def F51_7 (a b : V) : M := fun c d g => resv 1 d fun i j => newA i false 5 109 a j fun m n => resv 1 n fun o p => newA o false 5 109 b p fun q r => sl0 (V.t false) c fun s => fadV 0 m fun t => ld1 t r fun u => fadV 0 q fun v => ld1 v r fun w => F51_6 cf u w r m q s g
def T51 (cf : CallF) (lf : Nat) : V → H → KV → Bool := fun l h k => onCons l fun a b => onCons b fun c d => onNil d ((F51_7 cf a c) (⟨n8 V.u, n8 V.u, n8 V.u, n8 V.u, n8 V.u, n8 V.u, n8 V.u, n8 V.u⟩ : L8) h fun x e h => finK (fun e h k => k e.c0.c0) k x e h)
theorem e51 : FnEq Tryz.prog G LF OF 51 T51 := fun cf lf => by kernel_rfl
theorem c51 : chkF Tryz.prog LF OF 51 = true := by kernel_rfl
def F52_0 (a : V) : M := fun b c d => notV a fun g => condV g (sl0 (V.s 0 0) b fun i => sl1 (wI 1) i fun j => d X.r j c) (d X.n b c)
def F52_1 : M := fun a b c => sl0 a.c0.c2 a fun d => sl1 (wI 0) d fun g => c X.r g b
def F52_2 (a : V) : M := fun b c d => sl0 (V.s 0 0) b fun g => sl1 (wI 0) g fun i => cf 93 (vc a V.nil) c fun j m => ext 0 j fun n => ext 1 j fun o => sl2 n i fun p => seqM (F52_0 o) (F52_1) p m d
def T52 (cf : CallF) (lf : Nat) : V → H → KV → Bool := fun l h k => onCons l fun a b => onNil b ((F52_2 cf a) (⟨n8 V.u, n8 V.u, n8 V.u, n8 V.u, n8 V.u, n8 V.u, n8 V.u, n8 V.u⟩ : L8) h fun x e h => finK (fun e h k => k (V.x .tup (vc e.c0.c0 (vc e.c0.c1 V.nil)) V.nil)) k x e h)
theorem e52 : FnEq Tryz.prog G LF OF 52 T52 := fun cf lf => by kernel_rfl
theorem c52 : chkF Tryz.prog LF OF 52 = true := by kernel_rfl
def F65_0 (a : V) (b : H) (c : V) (d : L8) (g : KX) : Bool := guardT a b (fun i => sidxV c (wI 0) fun j => i j b) fun m n => guardT a n (fun o => cf 120 (vc m V.nil) n fun p q => o p q) fun r s => pickV a r (V.t false) fun t => sl0 t d fun u => g X.r u s
def F65_1 (a : V) : M := fun b c d => sl0 (V.t false) b fun g => cf 119 (vc a V.nil) c fun i j => guardT i j (fun m => m a j) fun n o => F65_0 cf i o n g d
def T65 (cf : CallF) (lf : Nat) : V → H → KV → Bool := fun l h k => onCons l fun a b => onNil b ((F65_1 cf a) (⟨n8 V.u, n8 V.u, n8 V.u, n8 V.u, n8 V.u, n8 V.u, n8 V.u, n8 V.u⟩ : L8) h fun x e h => finK (fun e h k => k e.c0.c0) k x e h)
theorem e65 : FnEq Tryz.prog G LF OF 65 T65 := fun cf lf => by kernel_rfl
theorem c65 : chkF Tryz.prog LF OF 65 = true := by kernel_rfl
def F72_0 (a : V) (b : H) (c : V) (d : L8) (g : KX) : Bool := nilckV a fun i => fadV 1 i fun j => ld1 j b fun m => sdata c fun n => lenL m fun o => usS 5 n o b fun p q => sl0 p d fun r => g X.r r q
def F72_1 (a : V) : M := fun b c d => sl0 (V.s 0 0) b fun g => resv 0 c fun i j => nilckV a fun m => fadV 1 m fun n => ld1 n j fun o => F72_0 a j o g d
def T72 (cf : CallF) (lf : Nat) : V → H → KV → Bool := fun l h k => onCons l fun a b => onNil b ((F72_1 a) (⟨n8 V.u, n8 V.u, n8 V.u, n8 V.u, n8 V.u, n8 V.u, n8 V.u, n8 V.u⟩ : L8) h fun x e h => finK (fun e h k => k e.c0.c0) k x e h)
theorem e72 : FnEq Tryz.prog G LF OF 72 T72 := fun cf lf => by kernel_rfl
theorem c72 : chkF Tryz.prog LF OF 72 = true := by kernel_rfl
def F76_0 (a : V) : M := fun b c d => sidxV a (wI 0) fun g => eqlY g (V.y 35) fun i => condV i (cf 129 (vc a (vc (V.x (.func 130) V.nil V.nil) V.nil)) c fun j m => sl0 j b fun n => d X.r n m) (d X.n b c)
def F76_1 : M := fun a b c => cf 129 (vc a.c0.c1 (vc (V.x (.func 131) V.nil V.nil) V.nil)) b fun d g => sl0 d a fun i => c X.r i g
def F76_2 (a : V) : M := fun b c d => sl0 (wI 0) b fun g => seqM (F76_0 cf a) (F76_1 cf) g c d
def T76 (cf : CallF) (lf : Nat) : V → H → KV → Bool := fun l h k => onCons l fun a b => onNil b ((F76_2 cf a) (⟨⟨V.u, a, V.u, V.u, V.u, V.u, V.u, V.u⟩, n8 V.u, n8 V.u, n8 V.u, n8 V.u, n8 V.u, n8 V.u, n8 V.u⟩ : L8) h fun x e h => finK (fun e h k => k e.c0.c0) k x e h)
theorem e76 : FnEq Tryz.prog G LF OF 76 T76 := fun cf lf => by kernel_rfl
theorem c76 : chkF Tryz.prog LF OF 76 = true := by kernel_rfl
def F77_0 (a : V) : M := fun b c d => gtrW a (wI 12) fun g => condV g (sl0 (wI 0) b fun i => d X.r i c) (d X.n b c)
def F77_1 : M := fun a b c => sl0 a.c0.c1 a fun d => c X.r d b
def F77_2 (a : V) (b : H) (c : L8) (d : KX) : Bool := cf 135 (vc a V.nil) b fun g i => ext 0 g fun j => ext 1 g fun m => ext 2 g fun n => condV n (sl0 m c fun o => d X.r o i) (d X.n c i)
def F77_3 (a : V) (b : H) (c d : V) (g : L8) (i : KX) : Bool := guardT a b (fun j => leqW c (wI 40) fun m => j m b) fun n o => pickV a n (V.t false) fun p => condV p (sl0 d g fun q => i X.r q o) (i X.n g o)
def F77_4 (a : V) (b : H) (c d : V) (g : L8) (i : KX) : Bool := guardT a b (fun j => j c b) fun m n => guardT a n (fun o => lenS m fun p => o p n) fun q r => F77_3 a r q d g i
def F77_5 (a : V) (b : H) (c : L8) (d : KX) : Bool := cf 100 (vc (V.s 11 151698300651743244156675105) (vc a V.nil)) b fun g i => geqV g (wI 0) fun j => condV j (sl0 (wI 1) c fun m => d X.r m i) (d X.n c i)
def F77_6 (a : V) (b : H) (c : L8) (d : KX) (g : V) : Bool := cf 137 (vc a (vc (V.s 3 3026478) V.nil)) b fun i j => condV i (sl0 (wI 3) c fun m => d X.r m j) (F77_5 cf g j c d)
def F77_7 (a b : V) (c : H) (d : L8) (g : KX) (i : V) : Bool := condV a (cf 136 (vc b V.nil) c fun j m => ext 0 j fun n => ext 1 j fun o => ext 2 j fun p => F77_4 p m n o d g) (F77_6 cf b c d g i)
def F77_8 (a : V) (b : H) (c d : V) (g : L8) (i : KX) (j : V) : Bool := guardF a b (fun m => cf 134 (vc c V.nil) b fun n o => m n o) fun p q => pickV a (V.t true) p fun r => condV r (F77_2 cf d q g i) (eqlY j (V.y 34) fun s => F77_7 cf s d q g i j)
def F77_9 (a b : V) (c : H) (d : L8) (g : KX) (i : V) : Bool := condV a (cf 129 (vc b (vc (V.x (.func 133) V.nil V.nil) V.nil)) c fun j m => sl1 j d fun n => seqM (F77_0 j) (F77_1) n m g) (eqlY i (V.y 45) fun o => guardF o c (fun p => p i c) fun q r => F77_8 cf o r q b d g i)
def F77_10 (a b : V) : M := fun c d g => cf 132 (vc a V.nil) d fun i j => F77_9 cf i b j c g a
def F77_11 (a : V) : M := fun b c d => sidxV a (wI 0) fun g => blockM 0 (F77_10 cf g a) b c d
def F77_12 : M := fun a b c => sl0 (wI 0) a fun d => c X.r d b
def F77_13 (a : V) : M := fun b c d => sl0 (wI 0) b fun g => seqM (F77_11 cf a) (F77_12) g c d
def T77 (cf : CallF) (lf : Nat) : V → H → KV → Bool := fun l h k => onCons l fun a b => onNil b ((F77_13 cf a) (⟨n8 V.u, n8 V.u, n8 V.u, n8 V.u, n8 V.u, n8 V.u, n8 V.u, n8 V.u⟩ : L8) h fun x e h => finK (fun e h k => k e.c0.c0) k x e h)
theorem e77 : FnEq Tryz.prog G LF OF 77 T77 := fun cf lf => by kernel_rfl
theorem c77 : chkF Tryz.prog LF OF 77 = true := by kernel_rfl
def F82_0 (a : V) : M := fun b c d => eqlS a (V.s 5 521610294641) fun g => sl2 g b fun i => condV g (d X.n i c) (eqlS a (V.s 8 7957695015159100781) fun j => sl2 j i fun m => d X.n m c)
def F82_1 (a : V) (b : L8) (c : H) (d : KX) : Bool := condV a (cf 143 (vc b.c0.c3 V.nil) c fun g i => ext 0 g fun j => ext 1 g fun m => sl0 j b fun n => sl1 m n fun o => d X.r o i) (d X.n b c)
def F82_2 : M := fun a b c => condV a.c0.c2 (cf 142 (vc a.c0.c3 V.nil) b fun d g => ext 0 d fun i => ext 1 d fun j => sl0 i a fun m => sl1 j m fun n => c X.r n g) (eqlS a.c0.c4 (V.s 8 8389754676398092902) fun o => F82_1 cf o a b c)
def F82_3 (a : V) : M := fun b c d => cf 141 (vc a V.nil) c fun g i => sl4 g b fun j => blockM 0 (seqM (F82_0 g) (F82_2 cf)) j i d
def F82_4 (a : L8) (b c : V) (d : H) (g : KX) : Bool := cf 84 (vc a.c0.c3 (vc (V.x .agg b V.nil) (vc c V.nil))) d fun i j => ext 0 i fun m => ext 1 i fun n => sl0 m a fun o => sl1 n o fun p => g X.r p j
def F82_5 (a : V) (b : L8) (c : V) (d : H) (g : KX) : Bool := part 0 true 1 (wI 2) (vc (wI 0) (vc (V.s 0 0) (vc (V.s 0 0) (vc (wI 0) (vc (V.x .slnil V.nil V.nil) V.nil))))) fun i => part 4 true 1 a i fun j => F82_4 cf b j c d g
def F82_6 : M := fun a b c => cf 144 (vc a.c0.c3 V.nil) b fun d g => ext 0 d fun i => ext 1 d fun j => F82_5 cf i a j g c
def F82_7 (a : V) : M := fun b c d => sl0 (wI 0) b fun g => sl1 (V.x .inil V.nil V.nil) g fun i => seqM (F82_3 cf a) (F82_6 cf) i c d
def T82 (cf : CallF) (lf : Nat) : V → H → KV → Bool := fun l h k => onCons l fun a b => onNil b ((F82_7 cf a) (⟨⟨V.u, V.u, V.u, a, V.u, V.u, V.u, V.u⟩, n8 V.u, n8 V.u, n8 V.u, n8 V.u, n8 V.u, n8 V.u, n8 V.u⟩ : L8) h fun x e h => finK (fun e h k => k (V.x .tup (vc e.c0.c0 (vc e.c0.c1 V.nil)) V.nil)) k x e h)
theorem e82 : FnEq Tryz.prog G LF OF 82 T82 := fun cf lf => by kernel_rfl
theorem c82 : chkF Tryz.prog LF OF 82 = true := by kernel_rfl
def F83_0 (a : V) : M := fun b c d => eqN nilI idB a (V.x .inil V.nil V.nil) fun g => condV g (sl0 (V.x .inil V.nil V.nil) b fun i => d X.r i c) (d X.n b c)
def F83_1 : M := fun a b c => part 0 true 1 a.c0.c1 (vc (V.s 0 0) (vc (V.x .inil V.nil V.nil) V.nil)) fun d => part 1 true 1 a.c0.c2 d fun g => resv 1 b fun i j => newA i false 2 210 (V.x .agg g V.nil) j fun m n => sl0 (V.x (.iface 208) m V.nil) a fun o => c X.r o n
def F83_2 (a : V) : M := fun b c d => sl0 (V.x .inil V.nil V.nil) b fun g => seqM (F83_0 a) (F83_1) g c d
def T83 (cf : CallF) (lf : Nat) : V → H → KV → Bool := fun l h k => onCons l fun a b => onCons b fun c d => onNil d ((F83_2 c) (⟨⟨V.u, a, c, V.u, V.u, V.u, V.u, V.u⟩, n8 V.u, n8 V.u, n8 V.u, n8 V.u, n8 V.u, n8 V.u, n8 V.u⟩ : L8) h fun x e h => finK (fun e h k => k e.c0.c0) k x e h)
theorem e83 : FnEq Tryz.prog G LF OF 83 T83 := fun cf lf => by kernel_rfl
theorem c83 : chkF Tryz.prog LF OF 83 = true := by kernel_rfl
def F84_0 (a : V) : M := fun b c d => eqN nilI nots a (V.x .inil V.nil V.nil) fun g => condV g (sl0 (wI 0) b fun i => sl1 a i fun j => d X.r j c) (d X.n b c)
def F84_1 (a : V) (b : Nat) (c : H) (d : L8) (g : KX) : Bool := part 0 true 1 (wI 2) (vc (wI 0) (vc (wI 0) V.nil)) fun i => part 1 true 1 a i fun j => newA (Nat.add b 0) false 2 102 (V.x .agg j V.nil) c fun m n => sl0 (wI 0) d fun o => sl1 (V.x (.iface 95) m V.nil) o fun p => g X.r p n
def F84_2 (a : L8) (b : H) (c : V) (d : Nat) (g : KX) : Bool := nilckV a.c0.c2 fun i => fadV 1 i fun j => ld1 j b fun m => subW m (wI 1) fun n => iadV 2 c n fun o => fadV 1 o fun p => ld1 p b fun q => F84_1 q d b a g
def F84_3 (a : V) (b : H) (c : L8) (d : KX) : Bool := condV a (resv 1 b fun g i => nilckV c.c0.c2 fun j => fadV 0 j fun m => ld1 m i fun n => F84_2 c i n g d) (d X.n c b)
def F84_4 : M := fun a b c => nilckV a.c0.c2 fun d => fadV 3 d fun g => ld1 g b fun i => lenL i fun j => geqV j (wI 300) fun m => F84_3 m b a c
def F84_5 (a : L8) (b : H) (c : KX) : Bool := nilckV a.c0.c2 fun d => fadV 3 d fun g => ld1 g b fun i => lenL i fun j => subW j (wI 1) fun m => sl0 m a fun n => sl1 (V.x .inil V.nil V.nil) n fun o => c X.r o b
def F84_6 (a : L8) (b : H) (c : Nat) (d : V) (g : KX) : Bool := lda 5 a.c0.c3 b fun i => part 0 false 5 i (vc (wI 0) (vc (V.s 0 0) (vc (V.s 0 0) (vc (wI 0) (vc (V.x .slnil V.nil V.nil) V.nil))))) fun j => bslA (Nat.add c 0) 1 5 109 j b fun m n => app 5 109 d m n fun o p => nilckV a.c0.c2 fun q => fadV 3 q fun r => st true 1 r o p fun s t => F84_5 a t g
def F84_7 : M := fun a b c => resv 1 b fun d g => nilckV a.c0.c2 fun i => fadV 3 i fun j => ld1 j g fun m => F84_6 a g d m c
def F84_8 (a b : V) : M := fun c d g => resv 1 d fun i j => newA i false 5 109 a j fun m n => sl3 m c fun o => sl0 (wI 0) o fun p => sl1 (V.x .inil V.nil V.nil) p fun q => seqM (F84_0 b) (seqM (F84_4) (F84_7)) q n g
def T84 (cf : CallF) (lf : Nat) : V → H → KV → Bool := fun l h k => onCons l fun a b => onCons b fun c d => onCons d fun g i => onNil i ((F84_8 c g) (⟨⟨V.u, V.u, a, V.u, V.u, V.u, V.u, V.u⟩, n8 V.u, n8 V.u, n8 V.u, n8 V.u, n8 V.u, n8 V.u, n8 V.u⟩ : L8) h fun x e h => finK (fun e h k => k (V.x .tup (vc e.c0.c0 (vc e.c0.c1 V.nil)) V.nil)) k x e h)
theorem e84 : FnEq Tryz.prog G LF OF 84 T84 := fun cf lf => by kernel_rfl
theorem c84 : chkF Tryz.prog LF OF 84 = true := by kernel_rfl
def F85_0 (a : V) (b : H) (c d g : V) (i : KX) (j : L8) : Bool := guardF a b (fun m => sidxV c d fun n => m n b) fun o p => guardF a p (fun q => cf 145 (vc o V.nil) p fun r s => q r s) fun t u => guardT g u (fun v => pickV a (V.t true) t fun w => v w u) fun y a0 => pickV g y (V.t false) fun b0 => condV b0 (i X.n j a0) (i (X.x 1) j a0)
def F85_1 (a : V) (b : H) (c : V) (d : L8) (g : KX) : Bool := guardT a b (fun i => cf 120 (vc c V.nil) b fun j m => i j m) fun n o => guardT a o (fun p => p n o) fun q r => guardF q r (fun s => s d.c0.c2 r) fun t u => guardF q u (fun v => v d.c0.c1 u) fun w y => F85_0 cf q y t w a g d
def F85_2 (a : V) (b : H) (c : L8) (d : KX) : Bool := guardT a b (fun g => g c.c0.c2 b) fun i j => guardT a j (fun m => m c.c0.c1 j) fun n o => guardT a o (fun p => sidxV i n fun q => p q o) fun r s => F85_1 cf a s r c d
def F85_3 : M := fun a b c => lenS a.c0.c2 fun d => lssW a.c0.c1 d fun g => F85_2 cf g b a c
def F85_4 : M := fun a b c => addW a.c0.c1 (wI 1) fun d => sl1 d a fun g => c X.n g b
def F85_5 : M := fun a b c => gtrW a.c0.c1 (wI 12) fun d => condV d (sl0 (wI 0) a fun g => c X.r g b) (c X.n a b)
def F85_6 : M := fun a b c => sl0 a.c0.c1 a fun d => c X.r d b
def F85_7 (a : V) (b : H) (c : V) (d : KX) (g : L8) : Bool := guardT a b (fun i => cf 145 (vc c V.nil) b fun j m => i j m) fun n o => pickV a n (V.t false) fun p => condV p (d X.n g o) (d (X.x 3) g o)
def F85_8 (a : V) (b : H) (c : L8) (d : KX) : Bool := guardT a b (fun g => g c.c0.c2 b) fun i j => guardT a j (fun m => m c.c0.c1 j) fun n o => guardT a o (fun p => sidxV i n fun q => p q o) fun r s => F85_7 cf a s r d c
def F85_9 : M := fun a b c => lenS a.c0.c2 fun d => lssW a.c0.c1 d fun g => F85_8 cf g b a c
def F85_10 : M := fun a b c => addW a.c0.c1 (wI 1) fun d => sl1 d a fun g => c X.n g b
def F85_11 (a : V) : M := fun b c d => notV a fun g => condV g (sl0 (wI 0) b fun i => d X.r i c) (d X.n b c)
def F85_12 : M := fun a b c => sl0 a.c0.c1 a fun d => c X.r d b
def F85_13 : M := fun a b c => sstr none (some a.c0.c1) a.c0.c2 fun d => cf 116 (vc d V.nil) b fun g i => ext 0 g fun j => ext 1 g fun m => seqM (F85_11 m) (F85_12) a i c
def F85_14 (a : V) (b : H) (c : L8) (d : KX) : Bool := cf 146 (vc a V.nil) b fun g i => ext 0 g fun j => ext 1 g fun m => sl1 j c fun n => sl0 j n fun o => d X.r o i
def F85_15 (a : V) (b : H) (c : V) (d : L8) (g : KX) : Bool := guardT a b (fun i => i c b) fun j m => guardT a m (fun n => sstr none (some (wI 3)) j fun o => n o m) fun p q => guardT a q (fun r => eqlS p (V.s 3 3026478) fun s => r s q) fun t u => pickV a t (V.t false) fun v => condV v (sl0 (wI 3) d fun w => g X.r w u) (g X.n d u)
def F85_16 (a b : V) (c : H) (d : L8) (g : KX) : Bool := eqlY a (V.y 34) fun i => condV i (F85_14 cf b c d g) (lenS b fun j => gtrW j (wI 2) fun m => F85_15 m c b d g)
def F85_17 (a : V) (b : L8) (c : H) (d : KX) (g i : V) : Bool := condV a (sl1 (wI 1) b fun j => seqM (blockM 3 (loopM lf (seqM (F85_9 cf) (blockM 4 (F85_10))))) (F85_13 cf) j c d) (F85_16 cf g i c b d)
def F85_18 (a : V) (b : H) (c : V) (d : L8) (g : KX) (i j : V) : Bool := guardF a b (fun m => cf 145 (vc c V.nil) b fun n o => m n o) fun p q => pickV a (V.t true) p fun r => F85_17 cf lf r d q g i j
def F85_19 (a : V) (b : L8) (c : H) (d : KX) (g i : V) : Bool := condV a (seqM (blockM 1 (loopM lf (seqM (F85_3 cf) (blockM 2 (F85_4))))) (seqM (F85_5) (F85_6)) b c d) (eqlY g (V.y 45) fun j => guardF j c (fun m => m g c) fun n o => F85_18 cf lf j o n b d g i)
def F85_20 (a b : V) : M := fun c d g => cf 120 (vc a V.nil) d fun i j => F85_19 cf lf i c j g a b
def F85_21 (a : V) : M := fun b c d => condV a (d X.n b c) (d (X.x 5) b c)
def F85_22 : M := fun a b c => iadV 1 a.c0.c5 a.c0.c3 fun d => ld1 d b fun g => eqlY g a.c0.c6 fun i => condV i (sl0 (wI 1) a fun j => c X.r j b) (c X.n a b)
def F85_23 : M := fun a b c => addW a.c0.c3 (wI 1) fun d => sl3 d a fun g => c X.n g b
def F85_24 : M := fun a b c => lssW a.c0.c3 a.c0.c4 fun d => seqM (F85_21 d) (seqM (blockM 6 (F85_22)) (F85_23)) a b c
def F85_25 : M := fun a b c => resv 1 b fun d g => part 0 true 1 (V.y 33) (vc (V.y 0) (vc (V.y 0) (vc (V.y 0) (vc (V.y 0) (vc (V.y 0) (vc (V.y 0) (vc (V.y 0) (vc (V.y 0) (vc (V.y 0) (vc (V.y 0) (vc (V.y 0) V.nil))))))))))) fun i => part 1 true 1 (V.y 36) i fun j => part 2 true 1 (V.y 40) j fun m => part 3 true 1 (V.y 41) m fun n => part 4 true 1 (V.y 58) n fun o => part 5 true 1 (V.y 61) o fun p => part 6 true 1 (V.y 64) p fun q => part 7 true 1 (V.y 91) q fun r => part 8 true 1 (V.y 93) r fun s => part 9 true 1 (V.y 123) s fun t => part 10 true 1 (V.y 125) t fun u => bslA d 11 1 5 u g fun v w => cvS v w fun y a0 => sl5 y a fun b0 => lenL y fun c0 => sl4 c0 b0 fun d0 => sl3 (wI 0) d0 fun g0 => blockM 5 (loopM lf (F85_24)) g0 a0 c
def F85_26 : M := fun a b c => sl0 (wI 0) a fun d => c X.r d b
def F85_27 (a : L8) (b : V) (c : H) (d : KX) : Bool := sl1 (wI 0) a fun g => sidxV b (wI 0) fun i => sl6 i g fun j => seqM (blockM 0 (F85_20 cf lf i b)) (seqM (F85_25 lf) (F85_26)) j c d
def F85_28 (a : V) : M := fun b c d => sl0 (wI 0) b fun g => F85_27 cf lf g a c d
def T85 (cf : CallF) (lf : Nat) : V → H → KV → Bool := fun l h k => onCons l fun a b => onNil b ((F85_28 cf lf a) (⟨⟨V.u, V.u, a, V.u, V.u, V.u, V.u, V.u⟩, n8 V.u, n8 V.u, n8 V.u, n8 V.u, n8 V.u, n8 V.u, n8 V.u⟩ : L8) h fun x e h => finK (fun e h k => k e.c0.c0) k x e h)
theorem e85 : FnEq Tryz.prog G LF OF 85 T85 := fun cf lf => by kernel_rfl
theorem c85 : chkF Tryz.prog LF OF 85 = true := by kernel_rfl
def F86_0 (a : V) (b : H) (c : V) (d : L8) (g : KX) : Bool := nilckV a fun i => fadV 2 i fun j => ld1 j b fun m => iadV 2 c m fun n => fadV 0 n fun o => ld1 o b fun p => sl0 p d fun q => g X.r q b
def F86_1 (a b : V) (c : H) (d : V) (g : L8) (i : KX) : Bool := lenL a fun j => lssW b j fun m => condV m (resv 0 c fun n o => nilckV d fun p => fadV 0 p fun q => ld1 q o fun r => F86_0 d o r g i) (i X.n g c)
def F86_2 (a : V) : M := fun b c d => resv 0 c fun g i => nilckV a fun j => fadV 2 j fun m => ld1 m i fun n => nilckV a fun o => fadV 0 o fun p => ld1 p i fun q => F86_1 q n i a b d
def F86_3 : M := fun a b c => sl0 (V.s 0 0) a fun d => c X.r d b
def F86_4 (a : V) : M := fun b c d => sl0 (V.s 0 0) b fun g => seqM (F86_2 a) (F86_3) g c d
def T86 (cf : CallF) (lf : Nat) : V → H → KV → Bool := fun l h k => onCons l fun a b => onNil b ((F86_4 a) (⟨n8 V.u, n8 V.u, n8 V.u, n8 V.u, n8 V.u, n8 V.u, n8 V.u, n8 V.u⟩ : L8) h fun x e h => finK (fun e h k => k e.c0.c0) k x e h)
theorem e86 : FnEq Tryz.prog G LF OF 86 T86 := fun cf lf => by kernel_rfl
theorem c86 : chkF Tryz.prog LF OF 86 = true := by kernel_rfl
def F87_0 (a b : V) (c : H) (d : V) (g : KX) (i : L8) : Bool := nilckV a fun j => fadV 6 j fun m => st true 1 m b c fun n o => nilckV a fun p => fadV 5 p fun q => st true 1 q d o fun r s => g X.n i s
def F87_1 (a b c : V) : M := fun d g i => nilckV a fun j => fadV 6 j fun m => ld1 m g fun n => eqlW n (wI 0) fun o => condV o (F87_0 a b g c i d) (i X.n d g)
def T87 (cf : CallF) (lf : Nat) : V → H → KV → Bool := fun l h k => onCons l fun a b => onCons b fun c d => onCons d fun g i => onNil i ((F87_1 a c g) (⟨n8 V.u, n8 V.u, n8 V.u, n8 V.u, n8 V.u, n8 V.u, n8 V.u, n8 V.u⟩ : L8) h fun x e h => finK (fun e h k => k (V.x .tup V.nil V.nil)) k x e h)
theorem e87 : FnEq Tryz.prog G LF OF 87 T87 := fun cf lf => by kernel_rfl
theorem c87 : chkF Tryz.prog LF OF 87 = true := by kernel_rfl
def F88_0 (a : V) (b : H) (c : V) (d : L8) (g : KX) : Bool := nilckV a fun i => fadV 2 i fun j => ld1 j b fun m => iadV 2 c m fun n => fadV 1 n fun o => ld1 o b fun p => sl0 p d fun q => g X.r q b
def F88_1 (a b : V) (c : H) (d : V) (g : L8) (i : KX) : Bool := lenL a fun j => lssW b j fun m => condV m (resv 0 c fun n o => nilckV d fun p => fadV 0 p fun q => ld1 q o fun r => F88_0 d o r g i) (i X.n g c)
def F88_2 (a : V) : M := fun b c d => resv 0 c fun g i => nilckV a fun j => fadV 2 j fun m => ld1 m i fun n => nilckV a fun o => fadV 0 o fun p => ld1 p i fun q => F88_1 q n i a b d
def F88_3 : M := fun a b c => nilckV a.c0.c1 fun d => fadV 1 d fun g => ld1 g b fun i => sl0 i a fun j => c X.r j b
def F88_4 (a : V) : M := fun b c d => sl0 (wI 0) b fun g => seqM (F88_2 a) (F88_3) g c d
def T88 (cf : CallF) (lf : Nat) : V → H → KV → Bool := fun l h k => onCons l fun a b => onNil b ((F88_4 a) (⟨⟨V.u, a, V.u, V.u, V.u, V.u, V.u, V.u⟩, n8 V.u, n8 V.u, n8 V.u, n8 V.u, n8 V.u, n8 V.u, n8 V.u⟩ : L8) h fun x e h => finK (fun e h k => k e.c0.c0) k x e h)
theorem e88 : FnEq Tryz.prog G LF OF 88 T88 := fun cf lf => by kernel_rfl
theorem c88 : chkF Tryz.prog LF OF 88 = true := by kernel_rfl
def F89_0 (a : V) : M := fun b c d => nilckV a fun g => fadV 6 g fun i => ld1 i c fun j => neqW j (wI 0) fun m => condV m (sl0 (V.s 0 0) b fun n => d X.r n c) (d X.n b c)
def F89_1 (a : L8) (b : H) (c : KX) : Bool := cf 88 (vc a.c0.c1 V.nil) b fun d g => cf 87 (vc a.c0.c1 (vc (wI 4) (vc d V.nil))) g fun i j => sl0 (V.s 0 0) a fun m => c X.r m j
def F89_2 (a : V) : M := fun b c d => cf 65 (vc a V.nil) c fun g i => notV g fun j => condV j (F89_1 cf b i d) (d X.n b i)
def F89_3 (a : V) (b : L8) (c : H) (d : KX) : Bool := addW a (wI 1) fun g => nilckV b.c0.c1 fun i => fadV 2 i fun j => st true 1 j g c fun m n => sl0 b.c0.c2 b fun o => d X.r o n
def F89_4 : M := fun a b c => nilckV a.c0.c1 fun d => fadV 2 d fun g => ld1 g b fun i => F89_3 i a b c
def F89_5 : M := fun a b c => cf 86 (vc a.c0.c1 V.nil) b fun d g => sl2 d a fun i => seqM (F89_2 cf d) (F89_4) i g c
def F89_6 (a : V) : M := fun b c d => sl0 (V.s 0 0) b fun g => seqM (F89_0 a) (F89_5 cf) g c d
def T89 (cf : CallF) (lf : Nat) : V → H → KV → Bool := fun l h k => onCons l fun a b => onNil b ((F89_6 cf a) (⟨⟨V.u, a, V.u, V.u, V.u, V.u, V.u, V.u⟩, n8 V.u, n8 V.u, n8 V.u, n8 V.u, n8 V.u, n8 V.u, n8 V.u⟩ : L8) h fun x e h => finK (fun e h k => k e.c0.c0) k x e h)
theorem e89 : FnEq Tryz.prog G LF OF 89 T89 := fun cf lf => by kernel_rfl
theorem c89 : chkF Tryz.prog LF OF 89 = true := by kernel_rfl
def F90_0 (a : V) : M := fun b c d => nilckV a fun g => fadV 6 g fun i => ld1 i c fun j => neqW j (wI 0) fun m => condV m (d X.r b c) (d X.n b c)
def F90_1 (a : L8) (b : H) (c : KX) : Bool := cf 88 (vc a.c0.c0 V.nil) b fun d g => cf 87 (vc a.c0.c0 (vc (wI 4) (vc d V.nil))) g fun i j => c X.r a j
def F90_2 : M := fun a b c => cf 86 (vc a.c0.c0 V.nil) b fun d g => neqS d a.c0.c1 fun i => condV i (F90_1 cf a g c) (c X.n a g)
def F90_3 : M := fun a b c => nilckV a.c0.c0 fun d => fadV 2 d fun g => ld1 g b fun i => addW i (wI 1) fun j => nilckV a.c0.c0 fun m => fadV 2 m fun n => st true 1 n j b fun o p => c X.n a p
def T90 (cf : CallF) (lf : Nat) : V → H → KV → Bool := fun l h k => onCons l fun a b => onCons b fun c d => onNil d ((seqM (F90_0 a) (seqM (F90_2 cf) (F90_3))) (⟨⟨a, c, V.u, V.u, V.u, V.u, V.u, V.u⟩, n8 V.u, n8 V.u, n8 V.u, n8 V.u, n8 V.u, n8 V.u, n8 V.u⟩ : L8) h fun x e h => finK (fun e h k => k (V.x .tup V.nil V.nil)) k x e h)
theorem e90 : FnEq Tryz.prog G LF OF 90 T90 := fun cf lf => by kernel_rfl
theorem c90 : chkF Tryz.prog LF OF 90 = true := by kernel_rfl
def F91_0 (a b : V) (c : H) (d : KX) (g : L8) : Bool := condV a (cf 88 (vc b V.nil) c fun i j => cf 87 (vc b (vc (wI 2) (vc i V.nil))) j fun m n => d X.n g n) (d X.n g c)
def F91_1 (a : V) (b : H) (c d : V) (g : KX) (i : L8) : Bool := guardT a b (fun j => nilckV c fun m => j m b) fun n o => guardT a o (fun p => fadV 4 n fun q => p q o) fun r s => guardT a s (fun t => ld1 r s fun u => t u s) fun v w => guardT a w (fun y => geqV v (wI 8) fun a0 => y a0 w) fun b0 c0 => pickV a b0 (V.t false) fun d0 => F91_0 cf d0 d c0 g i
def F91_2 (a : V) (b : H) (c d : V) (g : KX) (i : L8) : Bool := guardT a b (fun j => eqlS c (V.s 1 123) fun m => j m b) fun n o => pickV a n (V.t false) fun p => guardT p o (fun q => q d o) fun r s => F91_1 cf p s r d g i
def F91_3 (a : V) (b : H) (c : V) (d : KX) (g : L8) : Bool := eqlW a (wI 0) fun i => guardT i b (fun j => j c b) fun m n => guardT i n (fun o => cf 86 (vc m V.nil) n fun p q => o p q) fun r s => F91_2 cf i s r c d g
def F91_4 (a : V) : M := fun b c d => nilckV a fun g => fadV 6 g fun i => ld1 i c fun j => F91_3 cf j c a d b
def F91_5 (a : V) (b : H) (c d : V) (g : KX) (i : L8) : Bool := guardF a b (fun j => neqS c (V.s 1 125) fun m => j m b) fun n o => guardT d o (fun p => pickV a (V.t true) n fun q => p q o) fun r s => pickV d r (V.t false) fun t => condV t (g X.n i s) (g (X.x 0) i s)
def F91_6 (a : V) (b : H) (c : V) (d : L8) (g : KX) : Bool := guardT a b (fun i => eqlW c (wI 0) fun j => i j b) fun m n => guardT a n (fun o => o m n) fun p q => guardF p q (fun r => r d.c0.c1 q) fun s t => guardF p t (fun u => cf 86 (vc s V.nil) t fun v w => u v w) fun y a0 => F91_5 p a0 y a g d
def F91_7 (a : V) (b : H) (c : L8) (d : KX) : Bool := eqlW a (wI 0) fun g => guardT g b (fun i => i c.c0.c2 b) fun j m => guardT g m (fun n => lenL j fun o => n o m) fun p q => F91_6 cf g q p c d
def F91_8 : M := fun a b c => nilckV a.c0.c1 fun d => fadV 6 d fun g => ld1 g b fun i => F91_7 cf i b a c
def F91_9 (a : H) (b : V) (c : L8) (d : KX) : Bool := resv 1 a fun g i => part 0 true 1 b (vc (wI 0) V.nil) fun j => bslA g 1 1 3 j i fun m n => app 1 3 c.c0.c2 m n fun o p => sl2 o c fun q => d X.n q p
def F91_10 (a : L8) (b : H) (c : V) (d : KX) : Bool := nilckV a.c0.c1 fun g => fadV 6 g fun i => ld1 i b fun j => eqlW j (wI 0) fun m => condV m (F91_9 b c a d) (d X.n a b)
def F91_11 : M := fun a b c => cf 147 (vc a.c0.c1 V.nil) b fun d g => F91_10 a g d c
def F91_12 (a : V) (b : L8) (c : H) (d : KX) : Bool := subW a (wI 1) fun g => nilckV b.c0.c1 fun i => fadV 4 i fun j => st true 1 j g c fun m n => cf 90 (vc b.c0.c1 (vc (V.s 1 125) V.nil)) n fun o p => sl0 b.c0.c2 b fun q => d X.r q p
def F91_13 : M := fun a b c => nilckV a.c0.c1 fun d => fadV 4 d fun g => ld1 g b fun i => F91_12 cf i a b c
def F91_14 (a : V) (b : L8) (c : H) (d : KX) : Bool := addW a (wI 1) fun g => nilckV b.c0.c1 fun i => fadV 4 i fun j => st true 1 j g c fun m n => sl2 (V.x .slnil V.nil V.nil) b fun o => seqM (blockM 0 (loopM lf (seqM (F91_8 cf) (blockM 1 (F91_11 cf))))) (F91_13 cf) o n d
def F91_15 : M := fun a b c => cf 90 (vc a.c0.c1 (vc (V.s 1 123) V.nil)) b fun d g => nilckV a.c0.c1 fun i => fadV 4 i fun j => ld1 j g fun m => F91_14 cf lf m a g c
def F91_16 (a : V) : M := fun b c d => sl0 (V.x .slnil V.nil V.nil) b fun g => seqM (F91_4 cf a) (F91_15 cf lf) g c d
def T91 (cf : CallF) (lf : Nat) : V → H → KV → Bool := fun l h k => onCons l fun a b => onNil b ((F91_16 cf lf a) (⟨⟨V.u, a, V.u, V.u, V.u, V.u, V.u, V.u⟩, n8 V.u, n8 V.u, n8 V.u, n8 V.u, n8 V.u, n8 V.u, n8 V.u⟩ : L8) h fun x e h => finK (fun e h k => k e.c0.c0) k x e h)
theorem e91 : FnEq Tryz.prog G LF OF 91 T91 := fun cf lf => by kernel_rfl
theorem c91 : chkF Tryz.prog LF OF 91 = true := by kernel_rfl
def F92_0 (a b : V) : M := fun c d g => lenL a fun i => lenL b fun j => neqW i j fun m => condV m (sl0 (V.t false) c fun n => g X.r n d) (g X.n c d)
def F92_1 : M := fun a b c => lenL a.c0.c2 fun d => lssW a.c0.c1 d fun g => condV g (c X.n a b) (c (X.x 0) a b)
def F92_2 (a : L8) (b : H) (c : V) (d : KX) : Bool := iadV 1 a.c0.c3 a.c0.c1 fun g => ld1 g b fun i => neqW c i fun j => condV j (sl0 (V.t false) a fun m => d X.r m b) (d X.n a b)
def F92_3 : M := fun a b c => resv 0 b fun d g => iadV 1 a.c0.c2 a.c0.c1 fun i => ld1 i g fun j => F92_2 a g j c
def F92_4 : M := fun a b c => addW a.c0.c1 (wI 1) fun d => sl1 d a fun g => c X.n g b
def F92_5 : M := fun a b c => sl1 (wI 0) a fun d => blockM 0 (loopM lf (seqM (F92_1) (seqM (blockM 1 (F92_3)) (F92_4)))) d b c
def F92_6 : M := fun a b c => sl0 (V.t true) a fun d => c X.r d b
def F92_7 (a b : V) : M := fun c d g => sl0 (V.t false) c fun i => seqM (F92_0 a b) (seqM (F92_5 lf) (F92_6)) i d g
def T92 (cf : CallF) (lf : Nat) : V → H → KV → Bool := fun l h k => onCons l fun a b => onCons b fun c d => onNil d ((F92_7 lf a c) (⟨⟨V.u, V.u, a, c, V.u, V.u, V.u, V.u⟩, n8 V.u, n8 V.u, n8 V.u, n8 V.u, n8 V.u, n8 V.u, n8 V.u⟩ : L8) h fun x e h => finK (fun e h k => k e.c0.c0) k x e h)
theorem e92 : FnEq Tryz.prog G LF OF 92 T92 := fun cf lf => by kernel_rfl
theorem c92 : chkF Tryz.prog LF OF 92 = true := by kernel_rfl
def F93_0 (a : V) (b : H) (c : V) (d : L8) (g : KX) : Bool := guardF a b (fun i => i c b) fun j m => guardF a m (fun n => lenL j fun o => n o m) fun p q => guardF a q (fun r => gtrW p (wI 300) fun s => r s q) fun t u => pickV a (V.t true) t fun v => condV v (sl0 (V.s 0 0) d fun w => sl1 (V.t false) w fun y => g X.r y u) (g X.n d u)
def F93_1 (a : V) : M := fun b c d => lenL a fun g => eqlW g (wI 0) fun i => F93_0 i c a b d
def F93_2 (a : V) (b : H) (c : V) (d : L8) (g : KX) : Bool := guardF a b (fun i => i c b) fun j m => guardF a m (fun n => lenS j fun o => n o m) fun p q => guardF a q (fun r => gtrW p (wI 3000) fun s => r s q) fun t u => pickV a (V.t true) t fun v => condV v (sl0 (V.s 0 0) d fun w => sl1 (V.t false) w fun y => g X.r y u) (g X.n d u)
def F93_3 (a b : V) : M := fun c d g => nilckV a fun i => fadV 3 i fun j => ld1 j d fun m => F93_2 m d b c g
def F93_4 (a : V) (b : H) (c : L8) (d : V) (g : KX) : Bool := guardT a b (fun i => i c.c0.c2 b) fun j m => guardT a m (fun n => n d m) fun o p => guardT a p (fun q => cf 150 (vc j (vc o (vc (V.x (.func 151) V.nil V.nil) V.nil))) p fun r s => q r s) fun t u => pickV a t (V.t false) fun v => sl0 c.c0.c3 c fun w => sl1 v w fun y => g X.r y u
def F93_5 : M := fun a b c => cf 18 (vc a.c0.c3 V.nil) b fun d g => ext 0 d fun i => ext 1 d fun j => ext 2 d fun m => eqlW m (wI 0) fun n => F93_4 cf n g a i c
def F93_6 (a : V) (b : H) (c : L8) (d : KX) : Bool := nilckV a fun g => fadV 1 g fun i => ld1 i b fun j => cf 149 (vc j (vc (V.s 1 32) V.nil)) b fun m n => sl3 m c fun o => seqM (F93_3 a m) (F93_5 cf) o n d
def F93_7 (a : L8) (b : V) (c : H) (d : KX) : Bool := lenL a.c0.c2 fun g => subW g (wI 1) fun i => cf 148 (vc b (vc i V.nil)) c fun j m => F93_6 cf b m a d
def F93_8 : M := fun a b c => part 0 true 1 a.c0.c2 (vc (V.x .slnil V.nil V.nil) (vc (V.x .slnil V.nil V.nil) (vc (wI 0) (vc (V.t false) V.nil)))) fun d => resv 1 b fun g i => newA g false 4 215 (V.x .agg d V.nil) i fun j m => F93_7 cf a j m c
def F93_9 (a : V) : M := fun b c d => sl0 (V.s 0 0) b fun g => sl1 (V.t false) g fun i => seqM (F93_1 a) (F93_8 cf) i c d
def T93 (cf : CallF) (lf : Nat) : V → H → KV → Bool := fun l h k => onCons l fun a b => onNil b ((F93_9 cf a) (⟨⟨V.u, V.u, a, V.u, V.u, V.u, V.u, V.u⟩, n8 V.u, n8 V.u, n8 V.u, n8 V.u, n8 V.u, n8 V.u, n8 V.u⟩ : L8) h fun x e h => finK (fun e h k => k (V.x .tup (vc e.c0.c0 (vc e.c0.c1 V.nil)) V.nil)) k x e h)
theorem e93 : FnEq Tryz.prog G LF OF 93 T93 := fun cf lf => by kernel_rfl
theorem c93 : chkF Tryz.prog LF OF 93 = true := by kernel_rfl
def F98_0 (a : V) (b : H) (c : L8) (d : KX) : Bool := geqY a (V.y 48) fun g => guardT g b (fun i => i a b) fun j m => guardT g m (fun n => leqY j (V.y 57) fun o => n o m) fun p q => pickV g p (V.t false) fun r => sl0 r c fun s => d X.r s q
def F98_1 (a : V) : M := fun b c d => sl0 (V.t false) b fun g => F98_0 a c g d
def T98 (cf : CallF) (lf : Nat) : V → H → KV → Bool := fun l h k => onCons l fun a b => onNil b ((F98_1 a) (⟨n8 V.u, n8 V.u, n8 V.u, n8 V.u, n8 V.u, n8 V.u, n8 V.u, n8 V.u⟩ : L8) h fun x e h => finK (fun e h k => k e.c0.c0) k x e h)
theorem e98 : FnEq Tryz.prog G LF OF 98 T98 := fun cf lf => by kernel_rfl
theorem c98 : chkF Tryz.prog LF OF 98 = true := by kernel_rfl
def F100_0 (a b : V) : M := fun c d g => sl0 (wI 0) c fun i => cf 155 (vc a (vc b V.nil)) d fun j m => sl0 j i fun n => g X.r n m
def T100 (cf : CallF) (lf : Nat) : V → H → KV → Bool := fun l h k => onCons l fun a b => onCons b fun c d => onNil d ((F100_0 cf a c) (⟨n8 V.u, n8 V.u, n8 V.u, n8 V.u, n8 V.u, n8 V.u, n8 V.u, n8 V.u⟩ : L8) h fun x e h => finK (fun e h k => k e.c0.c0) k x e h)
theorem e100 : FnEq Tryz.prog G LF OF 100 T100 := fun cf lf => by kernel_rfl
theorem c100 : chkF Tryz.prog LF OF 100 = true := by kernel_rfl
def F109_0 (a : V) (b : H) (c : V) (d : L8) (g : KX) : Bool := guardT a b (fun i => sidxV c (wI 0) fun j => i j b) fun m n => guardT a n (fun o => cf 132 (vc m V.nil) n fun p q => o p q) fun r s => pickV a r (V.t false) fun t => sl0 t d fun u => g X.r u s
def F109_1 (a : V) : M := fun b c d => sl0 (V.t false) b fun g => cf 157 (vc a V.nil) c fun i j => guardT i j (fun m => m a j) fun n o => F109_0 cf i o n g d
def T109 (cf : CallF) (lf : Nat) : V → H → KV → Bool := fun l h k => onCons l fun a b => onNil b ((F109_1 cf a) (⟨n8 V.u, n8 V.u, n8 V.u, n8 V.u, n8 V.u, n8 V.u, n8 V.u, n8 V.u⟩ : L8) h fun x e h => finK (fun e h k => k e.c0.c0) k x e h)
theorem e109 : FnEq Tryz.prog G LF OF 109 T109 := fun cf lf => by kernel_rfl
theorem c109 : chkF Tryz.prog LF OF 109 = true := by kernel_rfl
def F116_0 (a : V) (b : H) (c : V) (d : L8) (g : KX) : Bool := guardT a b (fun i => i c b) fun j m => guardT a m (fun n => sidxV j (wI 0) fun o => n o m) fun p q => guardT a q (fun r => eqlY p (V.y 45) fun s => r s q) fun t u => pickV a t (V.t false) fun v => condV v (sstr (some (wI 1)) none c fun w => sl2 w d fun y => g X.n y u) (g X.n d u)
def F116_1 (a : V) : M := fun b c d => lenS a fun g => gtrW g (wI 0) fun i => F116_0 i c a b d
def F116_2 (a : V) (b : H) (c : V) (d : L8) (g : KX) : Bool := guardF a b (fun i => i c b) fun j m => guardT j m (fun n => n d.c0.c3 m) fun o p => guardT j p (fun q => neqS o (V.s 1 48) fun r => q r p) fun s t => guardF a t (fun u => pickV j s (V.t false) fun v => u v t) fun w y => pickV a (V.t true) w fun a0 => condV a0 (sl0 (wI 0) d fun b0 => sl1 (V.t false) b0 fun c0 => g X.r c0 y) (g X.n d y)
def F116_3 (a : V) (b : H) (c : L8) (d : KX) : Bool := guardF a b (fun g => g c.c0.c2 b) fun i j => guardF a j (fun m => sidxV i (wI 0) fun n => m n j) fun o p => guardF a p (fun q => eqlY o (V.y 48) fun r => q r p) fun s t => F116_2 a t s c d
def F116_4 (a : V) (b : H) (c : L8) (d : KX) : Bool := guardF a b (fun g => g c.c0.c2 b) fun i j => guardF a j (fun m => lenS i fun n => m n j) fun o p => guardF a p (fun q => gtrW o (wI 10) fun r => q r p) fun s t => pickV a (V.t true) s fun u => F116_3 u t c d
def F116_5 : M := fun a b c => lenS a.c0.c2 fun d => eqlW d (wI 0) fun g => F116_4 g b a c
def F116_6 : M := fun a b c => lenS a.c0.c2 fun d => lssW a.c0.c4 d fun g => condV g (c X.n a b) (c (X.x 0) a b)
def F116_7 (a : V) (b : H) (c : V) (d : L8) (g : KX) : Bool := guardF a b (fun i => gtrY c (V.y 57) fun j => i j b) fun m n => pickV a (V.t true) m fun o => condV o (sl0 (wI 0) d fun p => sl1 (V.t false) p fun q => g X.r q n) (g X.n d n)
def F116_8 (a : V) (b : H) (c : L8) (d : KX) : Bool := guardF a b (fun g => g c.c0.c2 b) fun i j => guardF a j (fun m => m c.c0.c4 j) fun n o => guardF a o (fun p => sidxV i n fun q => p q o) fun r s => F116_7 a s r c d
def F116_9 : M := fun a b c => sidxV a.c0.c2 a.c0.c4 fun d => lssY d (V.y 48) fun g => F116_8 g b a c
def F116_10 (a : L8) (b : V) (c : KX) (d : H) : Bool := sidxV a.c0.c2 a.c0.c4 fun g => subY g (V.y 48) fun i => toW i fun j => addW b j fun m => sl5 m a fun n => c X.n n d
def F116_11 : M := fun a b c => mulV (wI 10) a.c0.c5 fun d => F116_10 a d c b
def F116_12 : M := fun a b c => addW a.c0.c4 (wI 1) fun d => sl4 d a fun g => c X.n g b
def F116_13 : M := fun a b c => sl4 (wI 0) a fun d => blockM 0 (loopM lf (seqM (F116_6) (seqM (blockM 1 (seqM (F116_9) (F116_11))) (F116_12)))) d b c
def F116_14 : M := fun a b c => gtrW a.c0.c5 (V.w 9223372037928517632) fun d => condV d (sl0 (wI 0) a fun g => sl1 (V.t false) g fun i => c X.r i b) (c X.n a b)
def F116_15 : M := fun a b c => lenS a.c0.c2 fun d => lenS a.c0.c3 fun g => lssW d g fun i => condV i (negV a.c0.c5 fun j => sl5 j a fun m => c X.n m b) (c X.n a b)
def F116_16 : M := fun a b c => sl0 a.c0.c5 a fun d => sl1 (V.t true) d fun g => c X.r g b
def F116_17 : M := fun a b c => sl5 (wI 0) a fun d => seqM (F116_13 lf) (seqM (F116_14) (seqM (F116_15) (F116_16))) d b c
def F116_18 (a : V) : M := fun b c d => sl0 (wI 0) b fun g => sl1 (V.t false) g fun i => sl2 a i fun j => seqM (F116_1 a) (seqM (F116_5) (F116_17 lf)) j c d
def T116 (cf : CallF) (lf : Nat) : V → H → KV → Bool := fun l h k => onCons l fun a b => onNil b ((F116_18 lf a) (⟨⟨V.u, V.u, V.u, a, V.u, V.u, V.u, V.u⟩, n8 V.u, n8 V.u, n8 V.u, n8 V.u, n8 V.u, n8 V.u, n8 V.u⟩ : L8) h fun x e h => finK (fun e h k => k (V.x .tup (vc e.c0.c0 (vc e.c0.c1 V.nil)) V.nil)) k x e h)
theorem e116 : FnEq Tryz.prog G LF OF 116 T116 := fun cf lf => by kernel_rfl
theorem c116 : chkF Tryz.prog LF OF 116 = true := by kernel_rfl
def F119_0 (a : V) (b : H) (c : V) (d : L8) (g : KX) : Bool := guardT a b (fun i => i c b) fun j m => guardT a m (fun n => cf 85 (vc j V.nil) m fun o p => n o p) fun q r => guardT a r (fun s => s c r) fun t u => guardT a u (fun v => lenS t fun w => v w u) fun y a0 => guardT a a0 (fun b0 => eqlW q y fun c0 => b0 c0 a0) fun d0 g0 => pickV a d0 (V.t false) fun i0 => sl0 i0 d fun j0 => g X.r j0 g0
def F119_1 (a : V) : M := fun b c d => sl0 (V.t false) b fun g => lenS a fun i => gtrW i (wI 0) fun j => F119_0 cf j c a g d
def T119 (cf : CallF) (lf : Nat) : V → H → KV → Bool := fun l h k => onCons l fun a b => onNil b ((F119_1 cf a) (⟨n8 V.u, n8 V.u, n8 V.u, n8 V.u, n8 V.u, n8 V.u, n8 V.u, n8 V.u⟩ : L8) h fun x e h => finK (fun e h k => k e.c0.c0) k x e h)
theorem e119 : FnEq Tryz.prog G LF OF 119 T119 := fun cf lf => by kernel_rfl
theorem c119 : chkF Tryz.prog LF OF 119 = true := by kernel_rfl
def F120_0 (a : V) (b : H) (c d g : V) (i : L8) (j : KX) : Bool := guardF a b (fun m => pickV c d (V.t false) fun n => m n b) fun o p => pickV a (V.t true) o fun q => guardF q p (fun r => r g p) fun s t => guardF q t (fun u => eqlY s (V.y 95) fun v => u v t) fun w y => pickV q (V.t true) w fun a0 => sl0 a0 i fun b0 => j X.r b0 y
def F120_1 (a : V) (b : H) (c d : V) (g : L8) (i : KX) : Bool := guardF a b (fun j => geqY c (V.y 65) fun m => j m b) fun n o => guardF a o (fun p => p n o) fun q r => guardT q r (fun s => s d r) fun t u => guardT q u (fun v => leqY t (V.y 90) fun w => v w u) fun y a0 => F120_0 a a0 q y d g i
def F120_2 (a : V) (b : H) (c d : V) (g : L8) (i : KX) : Bool := guardT a b (fun j => leqY c (V.y 122) fun m => j m b) fun n o => pickV a n (V.t false) fun p => guardF p o (fun q => q d o) fun r s => F120_1 p s r d g i
def F120_3 (a : V) : M := fun b c d => sl0 (V.t false) b fun g => geqY a (V.y 97) fun i => guardT i c (fun j => j a c) fun m n => F120_2 i n m a g d
def T120 (cf : CallF) (lf : Nat) : V → H → KV → Bool := fun l h k => onCons l fun a b => onNil b ((F120_3 a) (⟨n8 V.u, n8 V.u, n8 V.u, n8 V.u, n8 V.u, n8 V.u, n8 V.u, n8 V.u⟩ : L8) h fun x e h => finK (fun e h k => k e.c0.c0) k x e h)
theorem e120 : FnEq Tryz.prog G LF OF 120 T120 := fun cf lf => by kernel_rfl
theorem c120 : chkF Tryz.prog LF OF 120 = true := by kernel_rfl
def F126_0 (a : V) (b : H) (c d : V) (g : L8) (i : KX) : Bool := ld1 a b fun j => resv 1 b fun m n => part 0 true 1 c (vc (V.y 0) V.nil) fun o => bslA m 1 1 5 o n fun p q => app 1 5 j p q fun r s => nilckV d fun t => fadV 1 t fun u => st true 1 u r s fun v w => sl0 (V.x .inil V.nil V.nil) g fun y => i X.r y w
def F126_1 (a b : V) : M := fun c d g => sl0 (V.x .inil V.nil V.nil) c fun i => cf 165 (vc a V.nil) d fun j m => nilckV a fun n => fadV 1 n fun o => F126_0 o m b a i g
def T126 (cf : CallF) (lf : Nat) : V → H → KV → Bool := fun l h k => onCons l fun a b => onCons b fun c d => onNil d ((F126_1 cf a c) (⟨n8 V.u, n8 V.u, n8 V.u, n8 V.u, n8 V.u, n8 V.u, n8 V.u, n8 V.u⟩ : L8) h fun x e h => finK (fun e h k => k e.c0.c0) k x e h)
theorem e126 : FnEq Tryz.prog G LF OF 126 T126 := fun cf lf => by kernel_rfl
theorem c126 : chkF Tryz.prog LF OF 126 = true := by kernel_rfl
def F129_0 (a : V) (b : H) (c d g : V) (i : KX) (j : L8) : Bool := guardT a b (fun m => sidxV c d fun n => m n b) fun o p => guardT a p (fun q => callV cf g (vc o V.nil) p fun r s => q r s) fun t u => pickV a t (V.t false) fun v => condV v (i X.n j u) (i (X.x 0) j u)
def F129_1 (a : V) (b : H) (c : L8) (d : KX) : Bool := guardT a b (fun g => g c.c0.c3 b) fun i j => guardT a j (fun m => m c.c0.c2 j) fun n o => guardT a o (fun p => p c.c0.c1 o) fun q r => F129_0 cf a r n q i d c
def F129_2 : M := fun a b c => lenS a.c0.c2 fun d => lssW a.c0.c1 d fun g => F129_1 cf g b a c
def F129_3 : M := fun a b c => addW a.c0.c1 (wI 1) fun d => sl1 d a fun g => c X.n g b
def F129_4 : M := fun a b c => sl0 a.c0.c1 a fun d => c X.r d b
def F129_5 : M := fun a b c => sl0 (wI 0) a fun d => sl1 (wI 0) d fun g => seqM (blockM 0 (loopM lf (seqM (F129_2 cf) (blockM 1 (F129_3))))) (F129_4) g b c
def T129 (cf : CallF) (lf : Nat) : V → H → KV → Bool := fun l h k => onCons l fun a b => onCons b fun c d => onNil d ((F129_5 cf lf) (⟨⟨V.u, V.u, a, c, V.u, V.u, V.u, V.u⟩, n8 V.u, n8 V.u, n8 V.u, n8 V.u, n8 V.u, n8 V.u, n8 V.u⟩ : L8) h fun x e h => finK (fun e h k => k e.c0.c0) k x e h)
theorem e129 : FnEq Tryz.prog G LF OF 129 T129 := fun cf lf => by kernel_rfl
theorem c129 : chkF Tryz.prog LF OF 129 = true := by kernel_rfl
def F131_0 (a : V) : M := fun b c d => sl0 (V.t false) b fun g => cf 100 (vc (V.s 5 56005232928) (vc a V.nil)) c fun i j => geqV i (wI 0) fun m => sl0 m g fun n => d X.r n j
def T131 (cf : CallF) (lf : Nat) : V → H → KV → Bool := fun l h k => onCons l fun a b => onNil b ((F131_0 cf a) (⟨n8 V.u, n8 V.u, n8 V.u, n8 V.u, n8 V.u, n8 V.u, n8 V.u, n8 V.u⟩ : L8) h fun x e h => finK (fun e h k => k e.c0.c0) k x e h)
theorem e131 : FnEq Tryz.prog G LF OF 131 T131 := fun cf lf => by kernel_rfl
theorem c131 : chkF Tryz.prog LF OF 131 = true := by kernel_rfl
def F132_0 (a : V) (b : H) (c d g : V) (i : L8) (j : KX) : Bool := guardF a b (fun m => pickV c d (V.t false) fun n => m n b) fun o p => pickV a (V.t true) o fun q => guardF q p (fun r => r g p) fun s t => guardF q t (fun u => eqlY s (V.y 95) fun v => u v t) fun w y => pickV q (V.t true) w fun a0 => sl0 a0 i fun b0 => j X.r b0 y
def F132_1 (a : V) (b : H) (c d : V) (g : L8) (i : KX) : Bool := guardF a b (fun j => geqY c (V.y 65) fun m => j m b) fun n o => guardF a o (fun p => p n o) fun q r => guardT q r (fun s => s d r) fun t u => guardT q u (fun v => leqY t (V.y 90) fun w => v w u) fun y a0 => F132_0 a a0 q y d g i
def F132_2 (a : V) (b : H) (c d : V) (g : L8) (i : KX) : Bool := guardT a b (fun j => leqY c (V.y 122) fun m => j m b) fun n o => pickV a n (V.t false) fun p => guardF p o (fun q => q d o) fun r s => F132_1 p s r d g i
def F132_3 (a : V) : M := fun b c d => sl0 (V.t false) b fun g => geqY a (V.y 97) fun i => guardT i c (fun j => j a c) fun m n => F132_2 i n m a g d
def T132 (cf : CallF) (lf : Nat) : V → H → KV → Bool := fun l h k => onCons l fun a b => onNil b ((F132_3 a) (⟨n8 V.u, n8 V.u, n8 V.u, n8 V.u, n8 V.u, n8 V.u, n8 V.u, n8 V.u⟩ : L8) h fun x e h => finK (fun e h k => k e.c0.c0) k x e h)
theorem e132 : FnEq Tryz.prog G LF OF 132 T132 := fun cf lf => by kernel_rfl
theorem c132 : chkF Tryz.prog LF OF 132 = true := by kernel_rfl
def F133_0 (a : V) (b : H) (c : V) (d : L8) (g : KX) : Bool := guardF a b (fun i => cf 134 (vc c V.nil) b fun j m => i j m) fun n o => pickV a (V.t true) n fun p => sl0 p d fun q => g X.r q o
def F133_1 (a : V) : M := fun b c d => sl0 (V.t false) b fun g => cf 132 (vc a V.nil) c fun i j => guardF i j (fun m => m a j) fun n o => F133_0 cf i o n g d
def T133 (cf : CallF) (lf : Nat) : V → H → KV → Bool := fun l h k => onCons l fun a b => onNil b ((F133_1 cf a) (⟨n8 V.u, n8 V.u, n8 V.u, n8 V.u, n8 V.u, n8 V.u, n8 V.u, n8 V.u⟩ : L8) h fun x e h => finK (fun e h k => k e.c0.c0) k x e h)
theorem e133 : FnEq Tryz.prog G LF OF 133 T133 := fun cf lf => by kernel_rfl
theorem c133 : chkF Tryz.prog LF OF 133 = true := by kernel_rfl
def F134_0 (a : V) (b : H) (c : L8) (d : KX) : Bool := geqY a (V.y 48) fun g => guardT g b (fun i => i a b) fun j m => guardT g m (fun n => leqY j (V.y 57) fun o => n o m) fun p q => pickV g p (V.t false) fun r => sl0 r c fun s => d X.r s q
def F134_1 (a : V) : M := fun b c d => sl0 (V.t false) b fun g => F134_0 a c g d
def T134 (cf : CallF) (lf : Nat) : V → H → KV → Bool := fun l h k => onCons l fun a b => onNil b ((F134_1 a) (⟨n8 V.u, n8 V.u, n8 V.u, n8 V.u, n8 V.u, n8 V.u, n8 V.u, n8 V.u⟩ : L8) h fun x e h => finK (fun e h k => k e.c0.c0) k x e h)
theorem e134 : FnEq Tryz.prog G LF OF 134 T134 := fun cf lf => by kernel_rfl
theorem c134 : chkF Tryz.prog LF OF 134 = true := by kernel_rfl
def F135_0 (a : V) : M := fun b c d => cf 137 (vc a (vc (V.s 1 45) V.nil)) c fun g i => condV g (d (X.x 1) b i) (d X.n b i)
def F135_1 : M := fun a b c => sl4 (V.w 9223372036854775807) a fun d => sl1 (wI 1) d fun g => c X.n g b
def F135_2 (a : V) (b : H) (c : V) (d : KX) (g : L8) : Bool := guardT a b (fun i => cf 98 (vc c V.nil) b fun j m => i j m) fun n o => pickV a n (V.t false) fun p => condV p (d X.n g o) (d (X.x 3) g o)
def F135_3 (a : V) (b : H) (c : L8) (d : KX) : Bool := guardT a b (fun g => g c.c0.c3 b) fun i j => guardT a j (fun m => m c.c0.c1 j) fun n o => guardT a o (fun p => sidxV i n fun q => p q o) fun r s => F135_2 cf a s r d c
def F135_4 : M := fun a b c => lenS a.c0.c3 fun d => lssW a.c0.c1 d fun g => F135_3 cf g b a c
def F135_5 (a : L8) (b : KX) (c : H) : Bool := mulV a.c0.c0 (wI 10) fun d => sidxV a.c0.c3 a.c0.c1 fun g => subY g (V.y 48) fun i => toW i fun j => addW d j fun m => sl0 m a fun n => b X.n n c
def F135_6 : M := fun a b c => leqW a.c0.c0 (V.w 9223372037928517632) fun d => condV d (F135_5 a c b) (c X.n a b)
def F135_7 : M := fun a b c => addW a.c0.c1 (wI 1) fun d => sl1 d a fun g => c X.n g b
def F135_8 (a : L8) : M := fun b c d => lssW b.c0.c4 (wI 0) fun g => condV g (subW a.c0.c1 (wI 1) fun i => sl5 i b fun j => d X.n j c) (d X.n b c)
def F135_9 (a : V) (b : H) (c d g : V) (i : L8) (j : KX) : Bool := guardF a b (fun m => lssW c (wI 0) fun n => m n b) fun o p => guardT d p (fun q => pickV a (V.t true) o fun r => q r p) fun s t => guardF g t (fun u => pickV d s (V.t false) fun v => u v t) fun w y => pickV g (V.t true) w fun a0 => condV a0 (sl0 (wI 0) i fun b0 => sl1 i.c0.c1 b0 fun c0 => sl2 (V.t false) c0 fun d0 => j X.r d0 y) (j X.n i y)
def F135_10 (a : V) (b : H) (c : L8) (d : V) (g : KX) : Bool := guardT a b (fun i => i c.c0.c5 b) fun j m => guardT a m (fun n => gtrW j (wI 1) fun o => n o m) fun p q => guardT a q (fun r => r p q) fun s t => guardF s t (fun u => u c.c0.c4 t) fun v w => F135_9 s w v a d c g
def F135_11 (a : V) (b : H) (c d : V) (g : L8) (i : KX) : Bool := guardF a b (fun j => j c b) fun m n => guardF a n (fun o => sidxV d m fun p => o p n) fun q r => guardF a r (fun s => eqlY q (V.y 48) fun t => s t r) fun u v => guardF a v (fun w => w u v) fun y a0 => F135_10 y a0 g a i
def F135_12 (a : V) (b : H) (c : V) (d : L8) (g : V) (i : KX) : Bool := guardF a b (fun j => gtrW c (V.w 9223372037928517632) fun m => j m b) fun n o => pickV a (V.t true) n fun p => guardF p o (fun q => q d.c0.c3 o) fun r s => F135_11 p s g r d i
def F135_13 (a : V) : M := fun b c d => eqlW b.c0.c5 (wI 0) fun g => guardF g c (fun i => i b.c0.c0 c) fun j m => F135_12 g m j b a d
def F135_14 : M := fun a b c => mulV a.c0.c4 a.c0.c0 fun d => sl0 d a fun g => sl1 a.c0.c1 g fun i => sl2 (V.t true) i fun j => c X.r j b
def F135_15 : M := fun a b c => subW a.c0.c1 a.c0.c5 fun d => seqM (F135_13 d) (F135_14) a b c
def F135_16 : M := fun a b c => sl5 a.c0.c1 a fun d => seqM (F135_8 a) (F135_15) d b c
def F135_17 (a : V) (b : L8) (c : H) (d : KX) : Bool := seqM (blockM 0 (seqM (blockM 2 (seqM (blockM 1 (seqM (F135_0 cf a) (fun g i j => j (X.x 2) g i))) (F135_1))) (seqM (blockM 3 (loopM lf (seqM (F135_4 cf) (blockM 4 (seqM (F135_6) (F135_7)))))) (fun m n o => o (X.x 0) m n)))) (F135_16) b c d
def F135_18 (a : V) : M := fun b c d => sl0 (wI 0) b fun g => sl1 (wI 0) g fun i => sl2 (V.t false) i fun j => sl4 (wI 1) j fun m => F135_17 cf lf a m c d
def T135 (cf : CallF) (lf : Nat) : V → H → KV → Bool := fun l h k => onCons l fun a b => onNil b ((F135_18 cf lf a) (⟨⟨V.u, V.u, V.u, a, V.u, V.u, V.u, V.u⟩, n8 V.u, n8 V.u, n8 V.u, n8 V.u, n8 V.u, n8 V.u, n8 V.u⟩ : L8) h fun x e h => finK (fun e h k => k (V.x .tup (vc e.c0.c0 (vc e.c0.c1 (vc e.c0.c2 V.nil))) V.nil)) k x e h)
theorem e135 : FnEq Tryz.prog G LF OF 135 T135 := fun cf lf => by kernel_rfl
theorem c135 : chkF Tryz.prog LF OF 135 = true := by kernel_rfl
def F136_0 : M := fun a b c => lenS a.c0.c4 fun d => lssW a.c0.c3 d fun g => condV g (c X.n a b) (c (X.x 0) a b)
def F136_1 (a : L8) (b : H) (c : KX) : Bool := cf 72 (vc a.c0.c5 V.nil) b fun d g => addW a.c0.c3 (wI 1) fun i => sl0 d a fun j => sl1 i j fun m => sl2 (V.t true) m fun n => c X.r n g
def F136_2 (a : V) (b : H) (c d g : V) (i : L8) (j : KX) : Bool := guardT a b (fun m => sidxV c d fun n => m n b) fun o p => guardT a p (fun q => neqY o (V.y 92) fun r => q r p) fun s t => guardF g t (fun u => pickV a s (V.t false) fun v => u v t) fun w y => pickV g (V.t true) w fun a0 => condV a0 (sl0 (V.s 0 0) i fun b0 => sl1 (wI 0) b0 fun c0 => sl2 (V.t false) c0 fun d0 => j X.r d0 y) (j X.n i y)
def F136_3 (a : V) (b : H) (c : V) (d : L8) (g : V) (i : KX) : Bool := guardF a b (fun j => neqY c (V.y 34) fun m => j m b) fun n o => guardF a o (fun p => p n o) fun q r => guardT q r (fun s => s d.c0.c4 r) fun t u => guardT q u (fun v => v g u) fun w y => F136_2 q y t w a d i
def F136_4 (a : V) (b : H) (c : L8) (d : V) (g : KX) : Bool := guardF a b (fun i => i c.c0.c4 b) fun j m => guardF a m (fun n => n d m) fun o p => guardF a p (fun q => sidxV j o fun r => q r p) fun s t => F136_3 a t s c d g
def F136_5 (a : V) : M := fun b c d => lenS b.c0.c4 fun g => geqV a g fun i => F136_4 i c b a d
def F136_6 : M := fun a b c => sidxV a.c0.c4 a.c0.c3 fun d => sl6 d a fun g => c X.n g b
def F136_7 (a : V) (b : L8) (c : H) (d : KX) : Bool := eqlY a (V.y 92) fun g => condV g (addW b.c0.c3 (wI 1) fun i => sl3 i b fun j => seqM (F136_5 i) (F136_6) j c d) (d X.n b c)
def F136_8 (a : V) (b : L8) (c : KX) (d : H) (g : V) : Bool := condV a (sl0 (V.s 0 0) b fun i => sl1 (wI 0) i fun j => sl2 (V.t false) j fun m => c X.r m d) (F136_7 g b d c)
def F136_9 (a : V) (b : H) (c : L8) (d : KX) : Bool := lssY a (V.y 32) fun g => guardF g b (fun i => i a b) fun j m => guardF g m (fun n => gtrY j (V.y 126) fun o => n o m) fun p q => pickV g (V.t true) p fun r => F136_8 r c d q a
def F136_10 (a : V) : M := fun b c d => eqlY a (V.y 34) fun g => condV g (F136_1 cf b c d) (F136_9 a c b d)
def F136_11 : M := fun a b c => cf 126 (vc a.c0.c5 (vc a.c0.c6 V.nil)) b fun d g => c X.n a g
def F136_12 : M := fun a b c => sidxV a.c0.c4 a.c0.c3 fun d => sl6 d a fun g => seqM (blockM 2 (F136_10 cf d)) (F136_11 cf) g b c
def F136_13 : M := fun a b c => addW a.c0.c3 (wI 1) fun d => sl3 d a fun g => c X.n g b
def F136_14 : M := fun a b c => sl3 (wI 1) a fun d => blockM 0 (loopM lf (seqM (F136_0) (seqM (blockM 1 (F136_12 cf)) (F136_13)))) d b c
def F136_15 : M := fun a b c => sl0 (V.s 0 0) a fun d => sl1 (wI 0) d fun g => sl2 (V.t false) g fun i => c X.r i b
def F136_16 (a : H) (b : L8) (c : KX) : Bool := resv 1 a fun d g => newA d false 2 133 (V.x .agg (vc (V.x .pnil V.nil V.nil) (vc (V.x .slnil V.nil V.nil) V.nil)) V.nil) g fun i j => sl5 i b fun m => seqM (F136_14 cf lf) (F136_15) m j c
def F136_17 : M := fun a b c => sl0 (V.s 0 0) a fun d => sl1 (wI 0) d fun g => sl2 (V.t false) g fun i => F136_16 cf lf b i c
def T136 (cf : CallF) (lf : Nat) : V → H → KV → Bool := fun l h k => onCons l fun a b => onNil b ((F136_17 cf lf) (⟨⟨V.u, V.u, V.u, V.u, a, V.u, V.u, V.u⟩, n8 V.u, n8 V.u, n8 V.u, n8 V.u, n8 V.u, n8 V.u, n8 V.u⟩ : L8) h fun x e h => finK (fun e h k => k (V.x .tup (vc e.c0.c0 (vc e.c0.c1 (vc e.c0.c2 V.nil))) V.nil)) k x e h)
theorem e136 : FnEq Tryz.prog G LF OF 136 T136 := fun cf lf => by kernel_rfl
theorem c136 : chkF Tryz.prog LF OF 136 = true := by kernel_rfl
def F137_0 (a b : V) : M := fun c d g => sl0 (V.t false) c fun i => cf 167 (vc a (vc b V.nil)) d fun j m => sl0 j i fun n => g X.r n m
def T137 (cf : CallF) (lf : Nat) : V → H → KV → Bool := fun l h k => onCons l fun a b => onCons b fun c d => onNil d ((F137_0 cf a c) (⟨n8 V.u, n8 V.u, n8 V.u, n8 V.u, n8 V.u, n8 V.u, n8 V.u, n8 V.u⟩ : L8) h fun x e h => finK (fun e h k => k e.c0.c0) k x e h)
theorem e137 : FnEq Tryz.prog G LF OF 137 T137 := fun cf lf => by kernel_rfl
theorem c137 : chkF Tryz.prog LF OF 137 = true := by kernel_rfl
def F141_0 (a : V) (b : H) (c : V) (d : L8) (g : KX) : Bool := nilckV a fun i => fadV 0 i fun j => ld1 j b fun m => lenL m fun n => geqV c n fun o => condV o (sl0 (V.s 0 0) d fun p => g X.r p b) (g X.n d b)
def F141_1 (a : V) : M := fun b c d => resv 0 c fun g i => nilckV a fun j => fadV 1 j fun m => ld1 m i fun n => F141_0 a i n b d
def F141_2 (a : L8) (b : H) (c : V) (d : KX) : Bool := nilckV a.c0.c1 fun g => fadV 1 g fun i => ld1 i b fun j => iadV 2 c j fun m => fadV 0 m fun n => ld1 n b fun o => sl0 o a fun p => d X.r p b
def F141_3 : M := fun a b c => resv 0 b fun d g => nilckV a.c0.c1 fun i => fadV 0 i fun j => ld1 j g fun m => F141_2 a g m c
def F141_4 (a : V) : M := fun b c d => sl0 (V.s 0 0) b fun g => seqM (F141_1 a) (F141_3) g c d
def T141 (cf : CallF) (lf : Nat) : V → H → KV → Bool := fun l h k => onCons l fun a b => onNil b ((F141_4 a) (⟨⟨V.u, a, V.u, V.u, V.u, V.u, V.u, V.u⟩, n8 V.u, n8 V.u, n8 V.u, n8 V.u, n8 V.u, n8 V.u, n8 V.u⟩ : L8) h fun x e h => finK (fun e h k => k e.c0.c0) k x e h)
theorem e141 : FnEq Tryz.prog G LF OF 141 T141 := fun cf lf => by kernel_rfl
theorem c141 : chkF Tryz.prog LF OF 141 = true := by kernel_rfl
def F142_0 (a : V) (b : H) (c d : V) (g : KX) (i : L8) : Bool := guardT a b (fun j => j c b) fun m n => guardT a n (fun o => cf 168 (vc m (vc (V.s 8 7957695015159100781) V.nil)) n fun p q => o p q) fun r s => pickV a r (V.t false) fun t => condV t (fadV 3 d fun u => st true 1 u (wI 1) s fun v w => g X.n i w) (g X.n i s)
def F142_1 (a b : V) : M := fun c d g => cf 168 (vc a (vc (V.s 5 521610294641) V.nil)) d fun i j => notV i fun m => F142_0 cf m j a b g c
def F142_2 (a : L8) (b : H) (c : KX) : Bool := cf 169 (vc a.c0.c2 V.nil) b fun d g => ext 0 d fun i => ext 1 d fun j => fadV 1 a.c0.c3 fun m => st true 1 m i g fun n o => c X.n a o
def F142_3 : M := fun a b c => cf 141 (vc a.c0.c2 V.nil) b fun d g => cf 109 (vc d V.nil) g fun i j => condV i (F142_2 cf a j c) (c X.n a j)
def F142_4 (a : V) (b : H) (c : L8) (d : KX) : Bool := cf 83 (vc (V.s 9 2128683892942434361718) (vc a V.nil)) b fun g i => sl0 (wI 0) c fun j => sl1 g j fun m => d X.r m i
def F142_5 (a : V) (b : L8) (c : H) (d : KX) : Bool := ext 0 a fun g => ext 1 a fun i => fadV 4 b.c0.c3 fun j => st true 1 j g c fun m n => eqN nilI nots i (V.x .inil V.nil V.nil) fun o => condV o (F142_4 cf i n b d) (d X.n b n)
def F142_6 (a : L8) (b : H) (c : KX) : Bool := cf 170 (vc a.c0.c2 (vc (V.s 1 41) (vc (V.x (.func 171) (vc a.c0.c2 V.nil) V.nil) V.nil))) b fun d g => F142_5 cf d a g c
def F142_7 : M := fun a b c => cf 168 (vc a.c0.c2 (vc (V.s 1 40) V.nil)) b fun d g => condV d (F142_6 cf a g c) (c X.n a g)
def F142_8 (a : L8) (b : H) (c : V) (d : KX) : Bool := lda 5 a.c0.c3 b fun g => cf 84 (vc a.c0.c2 (vc g (vc c V.nil))) b fun i j => ext 0 i fun m => ext 1 i fun n => sl0 m a fun o => sl1 n o fun p => d X.r p j
def F142_9 (a : L8) (b : H) (c d : V) (g : KX) : Bool := fadV 4 a.c0.c3 fun i => ld1 i b fun j => app 1 3 j c b fun m n => fadV 4 a.c0.c3 fun o => st true 1 o m n fun p q => F142_8 cf a q d g
def F142_10 : M := fun a b c => cf 144 (vc a.c0.c2 V.nil) b fun d g => ext 0 d fun i => ext 1 d fun j => F142_9 cf a g i j c
def F142_11 (a : H) (b : L8) (c : V) (d : KX) : Bool := part 0 true 1 (wI 2) (vc (wI 0) (vc (V.s 0 0) (vc (V.s 0 0) (vc (wI 0) (vc (V.x .slnil V.nil V.nil) V.nil))))) fun g => resv 1 a fun i j => newA i false 5 109 (V.x .agg (vc (wI 0) (vc (V.s 0 0) (vc (V.s 0 0) (vc (wI 0) (vc (V.x .slnil V.nil V.nil) V.nil))))) V.nil) j fun m n => sl3 m b fun o => st false 5 m (V.x .agg g V.nil) n fun p q => seqM (F142_1 cf c m) (seqM (F142_3 cf) (seqM (F142_7 cf) (F142_10 cf))) o q d
def F142_12 (a : V) : M := fun b c d => sl0 (wI 0) b fun g => sl1 (V.x .inil V.nil V.nil) g fun i => F142_11 cf c i a d
def T142 (cf : CallF) (lf : Nat) : V → H → KV → Bool := fun l h k => onCons l fun a b => onNil b ((F142_12 cf a) (⟨⟨V.u, V.u, a, V.u, V.u, V.u, V.u, V.u⟩, n8 V.u, n8 V.u, n8 V.u, n8 V.u, n8 V.u, n8 V.u, n8 V.u⟩ : L8) h fun x e h => finK (fun e h k => k (V.x .tup (vc e.c0.c0 (vc e.c0.c1 V.nil)) V.nil)) k x e h)
theorem e142 : FnEq Tryz.prog G LF OF 142 T142 := fun cf lf => by kernel_rfl
theorem c142 : chkF Tryz.prog LF OF 142 = true := by kernel_rfl
def F143_0 (a b : V) (c : H) (d : L8) (g : KX) : Bool := condV a (cf 172 (vc b V.nil) c fun i j => sl0 (wI 0) d fun m => sl1 i m fun n => g X.r n j) (g X.n d c)
def F143_1 (a : V) : M := fun b c d => cf 141 (vc a V.nil) c fun g i => eqlS g (V.s 2 28271) fun j => F143_0 cf j a i b d
def F143_2 (a : L8) (b : V) (c : H) (d : KX) : Bool := fadV 1 a.c0.c3 fun g => st true 1 g b c fun i j => cf 173 (vc a.c0.c2 (vc (V.s 2 28271) V.nil)) j fun m n => sl4 m a fun o => d X.n o n
def F143_3 (a b : V) : M := fun c d g => eqN nilI idB a (V.x .inil V.nil V.nil) fun i => condV i (F143_2 cf c b d g) (g X.n c d)
def F143_4 (a : L8) (b : H) (c : KX) : Bool := cf 169 (vc a.c0.c2 V.nil) b fun d g => ext 0 d fun i => ext 1 d fun j => fadV 2 a.c0.c3 fun m => st true 1 m i g fun n o => sl4 j a fun p => c X.n p o
def F143_5 : M := fun a b c => eqN nilI idB a.c0.c4 (V.x .inil V.nil V.nil) fun d => condV d (F143_4 cf a b c) (c X.n a b)
def F143_6 (a : L8) (b : H) (c : KX) : Bool := cf 144 (vc a.c0.c2 V.nil) b fun d g => ext 0 d fun i => ext 1 d fun j => fadV 4 a.c0.c3 fun m => st true 1 m i g fun n o => sl4 j a fun p => c X.n p o
def F143_7 : M := fun a b c => eqN nilI idB a.c0.c4 (V.x .inil V.nil V.nil) fun d => condV d (F143_6 cf a b c) (c X.n a b)
def F143_8 : M := fun a b c => lda 5 a.c0.c3 b fun d => cf 84 (vc a.c0.c2 (vc d (vc a.c0.c4 V.nil))) b fun g i => ext 0 g fun j => ext 1 g fun m => sl0 j a fun n => sl1 m n fun o => c X.r o i
def F143_9 : M := fun a b c => cf 169 (vc a.c0.c2 V.nil) b fun d g => ext 0 d fun i => ext 1 d fun j => sl4 j a fun m => seqM (F143_3 cf j i) (seqM (F143_5 cf) (seqM (F143_7 cf) (F143_8 cf))) m g c
def F143_10 (a : H) (b : L8) (c : V) (d : KX) : Bool := part 0 true 1 (wI 9) (vc (wI 0) (vc (V.s 0 0) (vc (V.s 0 0) (vc (wI 0) (vc (V.x .slnil V.nil V.nil) V.nil))))) fun g => resv 1 a fun i j => newA i false 5 109 (V.x .agg (vc (wI 0) (vc (V.s 0 0) (vc (V.s 0 0) (vc (wI 0) (vc (V.x .slnil V.nil V.nil) V.nil))))) V.nil) j fun m n => sl3 m b fun o => st false 5 m (V.x .agg g V.nil) n fun p q => seqM (F143_1 cf c) (F143_9 cf) o q d
def F143_11 (a : V) (b : H) (c : L8) (d : KX) : Bool := nilckV a fun g => fadV 1 g fun i => ld1 i b fun j => addW j (wI 1) fun m => nilckV a fun n => fadV 1 n fun o => st true 1 o m b fun p q => F143_10 cf q c a d
def F143_12 (a : V) : M := fun b c d => sl0 (wI 0) b fun g => sl1 (V.x .inil V.nil V.nil) g fun i => F143_11 cf a c i d
def T143 (cf : CallF) (lf : Nat) : V → H → KV → Bool := fun l h k => onCons l fun a b => onNil b ((F143_12 cf a) (⟨⟨V.u, V.u, a, V.u, V.u, V.u, V.u, V.u⟩, n8 V.u, n8 V.u, n8 V.u, n8 V.u, n8 V.u, n8 V.u, n8 V.u⟩ : L8) h fun x e h => finK (fun e h k => k (V.x .tup (vc e.c0.c0 (vc e.c0.c1 V.nil)) V.nil)) k x e h)
theorem e143 : FnEq Tryz.prog G LF OF 143 T143 := fun cf lf => by kernel_rfl
theorem c143 : chkF Tryz.prog LF OF 143 = true := by kernel_rfl
def F144_0 (a : V) (b : H) (c : L8) (d : KX) : Bool := cf 174 (vc a V.nil) b fun g i => part 0 true 1 (wI 2) (vc (wI 0) (vc (wI 0) V.nil)) fun j => part 1 true 1 g j fun m => resv 1 i fun n o => newA n false 2 102 (V.x .agg m V.nil) o fun p q => sl0 (V.x .slnil V.nil V.nil) c fun r => sl1 (V.x (.iface 95) p V.nil) r fun s => d X.r s q
def F144_1 (a : V) (b : H) (c d : V) (g : L8) (i : KX) : Bool := guardT a b (fun j => geqV c (wI 8) fun m => j m b) fun n o => pickV a n (V.t false) fun p => condV p (F144_0 cf d o g i) (i X.n g o)
def F144_2 (a : V) (b : H) (c : V) (d : L8) (g : KX) : Bool := guardT a b (fun i => i c b) fun j m => guardT a m (fun n => nilckV j fun o => n o m) fun p q => guardT a q (fun r => fadV 4 p fun s => r s q) fun t u => guardT a u (fun v => ld1 t u fun w => v w u) fun y a0 => F144_1 cf a a0 y c d g
def F144_3 (a : V) : M := fun b c d => cf 141 (vc a V.nil) c fun g i => eqlS g (V.s 1 123) fun j => F144_2 cf j i a b d
def F144_4 (a : V) (b : L8) (c : KX) (d : H) : Bool := eqN nilI nots a (V.x .inil V.nil V.nil) fun g => condV g (sl0 (V.x .slnil V.nil V.nil) b fun i => sl1 a i fun j => c X.r j d) (c X.n b d)
def F144_5 : M := fun a b c => cf 173 (vc a.c0.c2 (vc (V.s 1 123) V.nil)) b fun d g => F144_4 d a c g
def F144_6 (a : V) (b : L8) (c : H) (d g : V) (i : KX) : Bool := subW a (wI 1) fun j => nilckV b.c0.c2 fun m => fadV 4 m fun n => st true 1 n j c fun o p => cf 83 (vc (V.s 10 545109315453898267059571) (vc d V.nil)) p fun q r => sl0 g b fun s => sl1 q s fun t => i X.r t r
def F144_7 (a : L8) (b : H) (c : KX) : Bool := cf 170 (vc a.c0.c2 (vc (V.s 1 125) (vc (V.x (.func 175) (vc a.c0.c2 V.nil) V.nil) V.nil))) b fun d g => ext 0 d fun i => ext 1 d fun j => nilckV a.c0.c2 fun m => fadV 4 m fun n => ld1 n g fun o => F144_6 cf o a g j i c
def F144_8 : M := fun a b c => nilckV a.c0.c2 fun d => fadV 4 d fun g => ld1 g b fun i => addW i (wI 1) fun j => nilckV a.c0.c2 fun m => fadV 4 m fun n => st true 1 n j b fun o p => F144_7 cf a p c
def F144_9 (a : V) : M := fun b c d => sl0 (V.x .slnil V.nil V.nil) b fun g => sl1 (V.x .inil V.nil V.nil) g fun i => seqM (F144_3 cf a) (seqM (F144_5 cf) (F144_8 cf)) i c d
def T144 (cf : CallF) (lf : Nat) : V → H → KV → Bool := fun l h k => onCons l fun a b => onNil b ((F144_9 cf a) (⟨⟨V.u, V.u, a, V.u, V.u, V.u, V.u, V.u⟩, n8 V.u, n8 V.u, n8 V.u, n8 V.u, n8 V.u, n8 V.u, n8 V.u⟩ : L8) h fun x e h => finK (fun e h k => k (V.x .tup (vc e.c0.c0 (vc e.c0.c1 V.nil)) V.nil)) k x e h)
theorem e144 : FnEq Tryz.prog G LF OF 144 T144 := fun cf lf => by kernel_rfl
theorem c144 : chkF Tryz.prog LF OF 144 = true := by kernel_rfl
def F145_0 (a : V) (b : H) (c : L8) (d : KX) : Bool := geqY a (V.y 48) fun g => guardT g b (fun i => i a b) fun j m => guardT g m (fun n => leqY j (V.y 57) fun o => n o m) fun p q => pickV g p (V.t false) fun r => sl0 r c fun s => d X.r s q
def F145_1 (a : V) : M := fun b c d => sl0 (V.t false) b fun g => F145_0 a c g d
def T145 (cf : CallF) (lf : Nat) : V → H → KV → Bool := fun l h k => onCons l fun a b => onNil b ((F145_1 a) (⟨n8 V.u, n8 V.u, n8 V.u, n8 V.u, n8 V.u, n8 V.u, n8 V.u, n8 V.u⟩ : L8) h fun x e h => finK (fun e h k => k e.c0.c0) k x e h)
theorem e145 : FnEq Tryz.prog G LF OF 145 T145 := fun cf lf => by kernel_rfl
theorem c145 : chkF Tryz.prog LF OF 145 = true := by kernel_rfl
def F146_0 : M := fun a b c => lenS a.c0.c3 fun d => lssW a.c0.c2 d fun g => condV g (c X.n a b) (c (X.x 0) a b)
def F146_1 : M := fun a b c => lenL a.c0.c4 fun d => gtrW d (wI 40) fun g => condV g (sl0 (wI 0) a fun i => sl1 (V.s 0 0) i fun j => c X.r j b) (c X.n a b)
def F146_2 : M := fun a b c => resv 0 b fun d g => b2s a.c0.c4 g fun i => addW a.c0.c2 (wI 1) fun j => sl0 j a fun m => sl1 i m fun n => c X.r n g
def F146_3 (a : V) : M := fun b c d => eqlY a (V.y 34) fun g => condV g (seqM (F146_1) (F146_2) b c d) (d X.n b c)
def F146_4 (a : V) (b : H) (c d g : V) (i : L8) (j : KX) : Bool := guardT a b (fun m => sidxV c d fun n => m n b) fun o p => guardT a p (fun q => neqY o (V.y 92) fun r => q r p) fun s t => guardF g t (fun u => pickV a s (V.t false) fun v => u v t) fun w y => pickV g (V.t true) w fun a0 => condV a0 (sl0 (wI 0) i fun b0 => sl1 (V.s 0 0) b0 fun c0 => j X.r c0 y) (j X.n i y)
def F146_5 (a : V) (b : H) (c : V) (d : L8) (g : V) (i : KX) : Bool := guardF a b (fun j => neqY c (V.y 34) fun m => j m b) fun n o => guardF a o (fun p => p n o) fun q r => guardT q r (fun s => s d.c0.c3 r) fun t u => guardT q u (fun v => v g u) fun w y => F146_4 q y t w a d i
def F146_6 (a : V) (b : H) (c : L8) (d : V) (g : KX) : Bool := guardF a b (fun i => i c.c0.c3 b) fun j m => guardF a m (fun n => n d m) fun o p => guardF a p (fun q => sidxV j o fun r => q r p) fun s t => F146_5 a t s c d g
def F146_7 (a : V) : M := fun b c d => lenS b.c0.c3 fun g => geqV a g fun i => F146_6 i c b a d
def F146_8 : M := fun a b c => sidxV a.c0.c3 a.c0.c2 fun d => sl5 d a fun g => c X.n g b
def F146_9 : M := fun a b c => eqlY a.c0.c5 (V.y 92) fun d => condV d (addW a.c0.c2 (wI 1) fun g => sl2 g a fun i => seqM (F146_7 g) (F146_8) i b c) (c X.n a b)
def F146_10 (a : V) (b : H) (c : V) (d : L8) (g : KX) : Bool := guardF a b (fun i => gtrY c (V.y 126) fun j => i j b) fun m n => pickV a (V.t true) m fun o => condV o (sl0 (wI 0) d fun p => sl1 (V.s 0 0) p fun q => g X.r q n) (g X.n d n)
def F146_11 : M := fun a b c => lssY a.c0.c5 (V.y 32) fun d => guardF d b (fun g => g a.c0.c5 b) fun i j => F146_10 d j i a c
def F146_12 : M := fun a b c => resv 1 b fun d g => part 0 true 1 a.c0.c5 (vc (V.y 0) V.nil) fun i => bslA d 1 1 5 i g fun j m => app 1 5 a.c0.c4 j m fun n o => sl4 n a fun p => c X.n p o
def F146_13 : M := fun a b c => sidxV a.c0.c3 a.c0.c2 fun d => sl5 d a fun g => seqM (F146_3 d) (seqM (F146_9) (seqM (F146_11) (F146_12))) g b c
def F146_14 : M := fun a b c => addW a.c0.c2 (wI 1) fun d => sl2 d a fun g => c X.n g b
def F146_15 : M := fun a b c => sl2 (wI 1) a fun d => blockM 0 (loopM lf (seqM (F146_0) (seqM (blockM 1 (F146_13)) (F146_14)))) d b c
def F146_16 : M := fun a b c => sl0 (wI 0) a fun d => sl1 (V.s 0 0) d fun g => c X.r g b
def F146_17 : M := fun a b c => sl0 (wI 0) a fun d => sl1 (V.s 0 0) d fun g => sl4 (V.x .slnil V.nil V.nil) g fun i => seqM (F146_15 lf) (F146_16) i b c
def T146 (cf : CallF) (lf : Nat) : V → H → KV → Bool := fun l h k => onCons l fun a b => onNil b ((F146_17 lf) (⟨⟨V.u, V.u, V.u, a, V.u, V.u, V.u, V.u⟩, n8 V.u, n8 V.u, n8 V.u, n8 V.u, n8 V.u, n8 V.u, n8 V.u⟩ : L8) h fun x e h => finK (fun e h k => k (V.x .tup (vc e.c0.c0 (vc e.c0.c1 V.nil)) V.nil)) k x e h)
theorem e146 : FnEq Tryz.prog G LF OF 146 T146 := fun cf lf => by kernel_rfl
theorem c146 : chkF Tryz.prog LF OF 146 = true := by kernel_rfl
def F147_0 (a : V) (b : H) (c : V) (d : KX) (g : L8) : Bool := fadV 1 a fun i => ld1 i b fun j => fadV 2 a fun m => st true 1 m j b fun n o => cf 89 (vc c V.nil) o fun p q => fadV 1 a fun r => st true 1 r p q fun s t => d X.n g t
def F147_1 (a : V) (b : H) (c : V) (d : KX) (g : L8) : Bool := nilckV a fun i => fadV 2 i fun j => ld1 j b fun m => addW m (wI 1) fun n => nilckV a fun o => fadV 2 o fun p => st true 1 p n b fun q r => F147_0 cf c r a d g
def F147_2 (a : V) (b : H) (c d g : V) (i : KX) (j : L8) : Bool := guardT a b (fun m => eqlS c (V.s 1 58) fun n => m n b) fun o p => pickV a o (V.t false) fun q => condV q (F147_1 cf d p g i j) (i X.n j p)
def F147_3 (a : V) (b : H) (c d : V) (g : KX) (i : L8) : Bool := eqlW a (wI 0) fun j => guardT j b (fun m => m c b) fun n o => guardT j o (fun p => cf 86 (vc n V.nil) o fun q r => p q r) fun s t => F147_2 cf j t s c d g i
def F147_4 (a b : V) : M := fun c d g => nilckV a fun i => fadV 6 i fun j => ld1 j d fun m => F147_3 cf m d a b g c
def F147_5 (a : H) (b : L8) (c : KX) : Bool := resv 0 a fun d g => fadV 4 b.c0.c2 fun i => ld1 i g fun j => cf 91 (vc b.c0.c1 V.nil) g fun m n => ld1 i n fun o => both (eqV o j) (app 1 3 j m n fun p q => fadV 4 b.c0.c2 fun r => st true 1 r p q fun s t => c X.n b t)
def F147_6 (a : V) (b : H) (c : V) (d : L8) (g : KX) : Bool := guardT a b (fun i => eqlS c (V.s 1 123) fun j => i j b) fun m n => pickV a m (V.t false) fun o => condV o (F147_5 cf n d g) (g X.n d n)
def F147_7 (a : V) (b : H) (c : L8) (d : KX) : Bool := eqlW a (wI 0) fun g => guardT g b (fun i => i c.c0.c1 b) fun j m => guardT g m (fun n => cf 86 (vc j V.nil) m fun o p => n o p) fun q r => F147_6 cf g r q c d
def F147_8 (a b : V) (c : H) (d : L8) (g : KX) : Bool := app 1 3 a b c fun i j => fadV 4 d.c0.c2 fun m => st true 1 m i j fun n o => nilckV d.c0.c1 fun p => fadV 6 p fun q => ld1 q o fun r => F147_7 cf r o d g
def F147_9 (a : H) (b : L8) (c : KX) : Bool := resv 0 a fun d g => fadV 4 b.c0.c2 fun i => ld1 i g fun j => cf 177 (vc b.c0.c1 V.nil) g fun m n => ld1 i n fun o => both (eqV o j) (F147_8 cf j m n b c)
def F147_10 : M := fun a b c => cf 176 (vc a.c0.c1 V.nil) b fun d g => fadV 4 a.c0.c2 fun i => st true 1 i d g fun j m => F147_9 cf m a c
def F147_11 (a : V) (b : H) (c : V) (d : L8) (g : KX) : Bool := cf 89 (vc a V.nil) b fun i j => part 0 true 1 (wI 4) (vc (wI 0) (vc (V.s 0 0) (vc (V.s 0 0) (vc (wI 0) (vc (V.x .slnil V.nil V.nil) V.nil))))) fun m => part 1 true 1 i m fun n => st false 5 c (V.x .agg n V.nil) j fun o p => seqM (F147_4 cf a c) (F147_10 cf) d p g
def F147_12 (a b : V) (c : H) (d : V) (g : KX) (i : L8) : Bool := part 0 true 1 (wI 7) (vc (wI 0) (vc (V.s 0 0) (vc (V.s 0 0) (vc (wI 0) (vc (V.x .slnil V.nil V.nil) V.nil))))) fun j => part 1 true 1 a j fun m => st false 5 b (V.x .agg m V.nil) c fun n o => cf 177 (vc d V.nil) o fun p q => fadV 4 b fun r => st true 1 r p q fun s t => g X.n i t
def F147_13 (a b : V) (c : H) (d g : V) (i : KX) (j : L8) : Bool := addW a (wI 1) fun m => nilckV b fun n => fadV 2 n fun o => st true 1 o m c fun p q => F147_12 cf d g q b i j
def F147_14 (a b : V) (c : H) (d : V) (g : KX) (i : L8) : Bool := addW a (wI 1) fun j => nilckV b fun m => fadV 2 m fun n => st true 1 n j c fun o p => cf 89 (vc b V.nil) p fun q r => fadV 2 d fun s => st true 1 s q r fun t u => g X.n i u
def F147_15 (a b c : V) : M := fun d g i => eqlS a (V.s 2 28271) fun j => condV j (nilckV b fun m => fadV 2 m fun n => ld1 n g fun o => F147_14 cf o b g c i d) (i X.n d g)
def F147_16 (a : H) (b : L8) (c : KX) : Bool := resv 0 a fun d g => fadV 4 b.c0.c2 fun i => ld1 i g fun j => cf 91 (vc b.c0.c1 V.nil) g fun m n => ld1 i n fun o => both (eqV o j) (app 1 3 j m n fun p q => fadV 4 b.c0.c2 fun r => st true 1 r p q fun s t => c X.n b t)
def F147_17 : M := fun a b c => cf 177 (vc a.c0.c1 V.nil) b fun d g => fadV 4 a.c0.c2 fun i => st true 1 i d g fun j m => F147_16 cf m a c
def F147_18 (a b : V) (c : H) (d g : V) (i : KX) (j : L8) : Bool := condV a (nilckV b fun m => fadV 2 m fun n => ld1 n c fun o => F147_13 cf o b c d g i j) (fadV 0 g fun p => st true 1 p (wI 8) c fun q r => seqM (F147_15 cf d b g) (F147_17 cf) j r i)
def F147_19 (a : V) (b : H) (c d g i : V) (j : KX) (m : L8) : Bool := guardT a b (fun n => neqS c (V.s 2 28271) fun o => n o b) fun p q => pickV a p (V.t false) fun r => F147_18 cf r d q g i j m
def F147_20 (a : V) (b : H) (c d : V) (g : KX) (i : L8) : Bool := cf 65 (vc a V.nil) b fun j m => guardT j m (fun n => n a m) fun o p => F147_19 cf j p o c a d g i
def F147_21 (a b : V) (c : H) (d : V) (g : KX) (i : L8) : Bool := addW a (wI 1) fun j => nilckV b fun m => fadV 2 m fun n => st true 1 n j c fun o p => cf 86 (vc b V.nil) p fun q r => F147_20 cf q r b d g i
def F147_22 (a b : V) : M := fun c d g => cf 86 (vc a V.nil) d fun i j => neqS i (V.s 3 3026478) fun m => condV m (F147_11 cf a j b c g) (nilckV a fun n => fadV 2 n fun o => ld1 o j fun p => F147_21 cf p a j b g c)
def F147_23 : M := fun a b c => nilckV a.c0.c1 fun d => fadV 6 d fun g => ld1 g b fun i => neqW i (wI 0) fun j => condV j (sl0 (wI 0) a fun m => c X.r m b) (c X.n a b)
def F147_24 : M := fun a b c => lda 5 a.c0.c2 b fun d => cf 50 (vc a.c0.c1 (vc d V.nil)) b fun g i => sl0 g a fun j => c X.r j i
def F147_25 (a : H) (b : L8) (c : V) (d : KX) : Bool := resv 1 a fun g i => newA g false 5 109 (V.x .agg (vc (wI 0) (vc (V.s 0 0) (vc (V.s 0 0) (vc (wI 0) (vc (V.x .slnil V.nil V.nil) V.nil))))) V.nil) i fun j m => sl2 j b fun n => st false 5 j (V.x .agg (vc (wI 0) (vc (V.s 0 0) (vc (V.s 0 0) (vc (wI 0) (vc (V.x .slnil V.nil V.nil) V.nil))))) V.nil) m fun o p => seqM (F147_22 cf c j) (seqM (F147_23) (F147_24 cf)) n p d
def F147_26 (a : V) : M := fun b c d => sl0 (wI 0) b fun g => F147_25 cf c g a d
def T147 (cf : CallF) (lf : Nat) : V → H → KV → Bool := fun l h k => onCons l fun a b => onNil b ((F147_26 cf a) (⟨⟨V.u, a, V.u, V.u, V.u, V.u, V.u, V.u⟩, n8 V.u, n8 V.u, n8 V.u, n8 V.u, n8 V.u, n8 V.u, n8 V.u⟩ : L8) h fun x e h => finK (fun e h k => k e.c0.c0) k x e h)
theorem e147 : FnEq Tryz.prog G LF OF 147 T147 := fun cf lf => by kernel_rfl
theorem c147 : chkF Tryz.prog LF OF 147 = true := by kernel_rfl
def F148_0 (a : V) (b : H) (c d : V) (g : KX) (i : L8) : Bool := guardF a b (fun j => notV c fun m => j m b) fun n o => pickV a (V.t true) n fun p => condV p (nilckV d fun q => fadV 3 q fun r => st true 1 r (V.t true) o fun s t => g X.r i t) (g X.n i o)
def F148_1 (a : V) (b : H) (c d : V) (g : KX) (i : L8) : Bool := guardF a b (fun j => j c b) fun m n => guardF a n (fun o => o d n) fun p q => guardF a q (fun r => cf 178 (vc m (vc p V.nil)) q fun s t => r s t) fun u v => F148_0 a v u c g i
def F148_2 (a b : V) : M := fun c d g => nilckV a fun i => fadV 3 i fun j => ld1 j d fun m => F148_1 cf m d a b g c
def F148_3 (a : H) (b : L8) (c : KX) : Bool := resv 1 a fun d g => part 0 true 1 (V.s 1 33) (vc (V.s 0 0) V.nil) fun i => bslA d 1 1 9 i g fun j m => cf 181 (vc b.c0.c0 (vc j V.nil)) m fun n o => c X.n b o
def F148_4 (a : V) (b : H) (c : V) (d : L8) (g : V) (i : KX) : Bool := ld1 a b fun j => resv 1 b fun m n => part 0 true 1 (V.s 1 36) (vc (V.s 0 0) (vc (V.s 0 0) (vc (V.s 0 0) (vc (V.s 0 0) V.nil)))) fun o => part 1 true 1 c o fun p => part 2 true 1 (V.s 1 58) p fun q => part 3 true 1 j q fun r => bslA m 4 1 9 r n fun s t => cf 181 (vc d.c0.c0 (vc s V.nil)) t fun u v => fadV 3 g fun w => ld1 w v fun y => eqlW y (wI 1) fun a0 => condV a0 (F148_3 cf v d i) (i X.n d v)
def F148_5 (a b : V) (c : H) (d : L8) (g : KX) : Bool := condV a (lda 5 b c fun i => cf 183 (vc d.c0.c0 (vc i V.nil)) c fun j m => g X.n d m) (lda 5 b c fun n => cf 184 (vc d.c0.c0 (vc n V.nil)) c fun o p => g X.n d p)
def F148_6 (a b : V) (c : H) (d : L8) (g : KX) : Bool := condV a (lda 5 b c fun i => cf 182 (vc d.c0.c0 (vc i V.nil)) c fun j m => g X.n d m) (fadV 0 b fun n => ld1 n c fun o => leqW o (wI 9) fun p => F148_5 cf p b c d g)
def F148_7 (a b : V) (c : H) (d : L8) (g : KX) : Bool := condV a (fadV 1 b fun i => ld1 i c fun j => fadV 2 b fun m => F148_4 cf m c j d b g) (fadV 0 b fun n => ld1 n c fun o => leqW o (wI 6) fun p => F148_6 cf p b c d g)
def F148_8 (a b : V) (c : H) (d : L8) (g : KX) : Bool := condV a (lda 5 b c fun i => cf 180 (vc d.c0.c0 (vc i V.nil)) c fun j m => g X.n d m) (fadV 0 b fun n => ld1 n c fun o => eqlW o (wI 3) fun p => F148_7 cf p b c d g)
def F148_9 (a b : V) (c : H) (d : L8) (g : KX) : Bool := condV a (fadV 4 b fun i => ld1 i c fun j => cf 179 (vc d.c0.c0 (vc j V.nil)) c fun m n => g X.n d n) (fadV 0 b fun o => ld1 o c fun p => eqlW p (wI 2) fun q => F148_8 cf q b c d g)
def F148_10 (a : V) : M := fun b c d => fadV 0 a fun g => ld1 g c fun i => eqlW i (wI 1) fun j => F148_9 cf j a c b d
def F148_11 (a : V) (b : L8) (c : H) (d : KX) : Bool := iadV 5 a b.c0.c1 fun g => lda 5 g c fun i => resv 1 c fun j m => newA j false 5 109 (V.x .agg (vc (wI 0) (vc (V.s 0 0) (vc (V.s 0 0) (vc (wI 0) (vc (V.x .slnil V.nil V.nil) V.nil))))) V.nil) m fun n o => st false 5 n i o fun p q => blockM 0 (F148_10 cf n) b q d
def F148_12 : M := fun a b c => nilckV a.c0.c0 fun d => fadV 0 d fun g => ld1 g b fun i => F148_11 cf i a b c
def T148 (cf : CallF) (lf : Nat) : V → H → KV → Bool := fun l h k => onCons l fun a b => onCons b fun c d => onNil d ((seqM (F148_2 cf a c) (F148_12 cf)) (⟨⟨a, c, V.u, V.u, V.u, V.u, V.u, V.u⟩, n8 V.u, n8 V.u, n8 V.u, n8 V.u, n8 V.u, n8 V.u, n8 V.u⟩ : L8) h fun x e h => finK (fun e h k => k (V.x .tup V.nil V.nil)) k x e h)
theorem e148 : FnEq Tryz.prog G LF OF 148 T148 := fun cf lf => by kernel_rfl
theorem c148 : chkF Tryz.prog LF OF 148 = true := by kernel_rfl
def F149_0 (a b : V) (c : H) (d : L8) (g : KX) : Bool := eqlW a (wI 1) fun i => condV i (iadV 1 b (wI 0) fun j => ld1 j c fun m => sl0 m d fun n => g X.r n c) (g X.n d c)
def F149_1 (a b : V) : M := fun c d g => eqlW a (wI 0) fun i => condV i (sl0 (V.s 0 0) c fun j => g X.r j d) (F149_0 a b d c g)
def F149_2 (a : V) : M := fun b c d => lenL a fun g => blockM 0 (F149_1 g a) b c d
def F149_3 : M := fun a b c => lenS a.c0.c1 fun d => lenL a.c0.c2 fun g => subW g (wI 1) fun i => quoV (V.w 18446744073709551615) i fun j => geqV d j fun m => condV m (false) (c X.n a b)
def F149_4 (a : L8) (b : V) (c : KX) (d : H) : Bool := lenL a.c0.c2 fun g => subW g (wI 1) fun i => mulV b i fun j => addW a.c0.c3 j fun m => sl3 m a fun n => c X.n n d
def F149_5 : M := fun a b c => lenS a.c0.c1 fun d => F149_4 a d c b
def F149_6 : M := fun a b c => lenS a.c0.c1 fun d => gtrW d (wI 0) fun g => condV g (seqM (F149_3) (F149_5) a b c) (c X.n a b)
def F149_7 (a : V) : M := fun b c d => condV a (d X.n b c) (d (X.x 1) b c)
def F149_8 (a : V) : M := fun b c d => lenS a fun g => subW (V.w 18446744073709551615) b.c0.c3 fun i => gtrW g i fun j => condV j (false) (d X.n b c)
def F149_9 : M := fun a b c => lenS a.c0.c7 fun d => addW a.c0.c3 d fun g => sl3 g a fun i => c X.n i b
def F149_10 : M := fun a b c => iadV 1 a.c0.c6 a.c0.c4 fun d => ld1 d b fun g => sl7 g a fun i => seqM (F149_8 g) (F149_9) i b c
def F149_11 : M := fun a b c => addW a.c0.c4 (wI 1) fun d => sl4 d a fun g => c X.n g b
def F149_12 : M := fun a b c => lssW a.c0.c4 a.c0.c5 fun d => seqM (F149_7 d) (seqM (blockM 2 (F149_10)) (F149_11)) a b c
def F149_13 : M := fun a b c => sl6 a.c0.c2 a fun d => lenL a.c0.c2 fun g => sl5 g d fun i => sl4 (wI 0) i fun j => blockM 1 (loopM lf (F149_12)) j b c
def F149_14 (a : V) : M := fun b c d => condV a (d X.n b c) (d (X.x 3) b c)
def F149_15 (a : L8) (b : H) (c : V) (d : KX) : Bool := cf 164 (vc a.c1.c3 (vc a.c0.c1 V.nil)) b fun g i => cf 164 (vc a.c1.c3 (vc c V.nil)) i fun j m => d X.n a m
def F149_16 : M := fun a b c => iadV 1 a.c1.c2 a.c1.c0 fun d => ld1 d b fun g => F149_15 cf a b g c
def F149_17 : M := fun a b c => addW a.c1.c0 (wI 1) fun d => sl8 d a fun g => c X.n g b
def F149_18 : M := fun a b c => lssW a.c1.c0 a.c1.c1 fun d => seqM (F149_14 d) (seqM (blockM 4 (F149_16 cf)) (F149_17)) a b c
def F149_19 : M := fun a b c => ssli 1 (some (wI 1)) none a.c0.c2 fun d => sl10 d a fun g => lenL d fun i => sl9 i g fun j => sl8 (wI 0) j fun m => blockM 3 (loopM lf (F149_18 cf)) m b c
def F149_20 : M := fun a b c => cf 72 (vc a.c1.c3 V.nil) b fun d g => sl0 d a fun i => c X.r i g
def F149_21 (a : L8) (b : H) (c : V) (d : KX) : Bool := iadV 1 a.c0.c2 (wI 0) fun g => ld1 g b fun i => cf 164 (vc c (vc i V.nil)) b fun j m => seqM (F149_19 cf lf) (F149_20 cf) a m d
def F149_22 : M := fun a b c => resv 1 b fun d g => newA d false 2 133 (V.x .agg (vc (V.x .pnil V.nil V.nil) (vc (V.x .slnil V.nil V.nil) V.nil)) V.nil) g fun i j => sl11 i a fun m => cf 185 (vc i (vc m.c0.c3 V.nil)) j fun n o => F149_21 cf lf m o i c
def F149_23 : M := fun a b c => sl3 (wI 0) a fun d => seqM (F149_6) (seqM (F149_13 lf) (F149_22 cf lf)) d b c
def F149_24 (a : V) : M := fun b c d => sl0 (V.s 0 0) b fun g => seqM (F149_2 a) (F149_23 cf lf) g c d
def T149 (cf : CallF) (lf : Nat) : V → H → KV → Bool := fun l h k => onCons l fun a b => onCons b fun c d => onNil d ((F149_24 cf lf a) (⟨⟨V.u, c, a, V.u, V.u, V.u, V.u, V.u⟩, n8 V.u, n8 V.u, n8 V.u, n8 V.u, n8 V.u, n8 V.u, n8 V.u⟩ : L8) h fun x e h => finK (fun e h k => k e.c0.c0) k x e h)
theorem e149 : FnEq Tryz.prog G LF OF 149 T149 := fun cf lf => by kernel_rfl
theorem c149 : chkF Tryz.prog LF OF 149 = true := by kernel_rfl
def F150_0 (a b : V) : M := fun c d g => lenL a fun i => lenL b fun j => neqW i j fun m => condV m (sl0 (V.t false) c fun n => g X.r n d) (g X.n c d)
def F150_1 (a : V) : M := fun b c d => condV a (d X.n b c) (d (X.x 0) b c)
def F150_2 (a : V) (b : H) (c : V) (d : L8) (g : KX) : Bool := lda 5 a b fun i => lda 5 c b fun j => callV cf d.c0.c6 (vc i (vc j V.nil)) b fun m n => notV m fun o => condV o (sl0 (V.t false) d fun p => g X.r p n) (g X.n d n)
def F150_3 (a : H) (b c : V) (d : L8) (g : KX) : Bool := resv 1 a fun i j => newA i false 5 109 (V.x .agg (vc (wI 0) (vc (V.s 0 0) (vc (V.s 0 0) (vc (wI 0) (vc (V.x .slnil V.nil V.nil) V.nil))))) V.nil) j fun m n => st false 5 m b n fun o p => F150_2 cf c p m d g
def F150_4 : M := fun a b c => iadV 5 a.c0.c4 a.c0.c2 fun d => lda 5 d b fun g => resv 1 b fun i j => newA i false 5 109 (V.x .agg (vc (wI 0) (vc (V.s 0 0) (vc (V.s 0 0) (vc (wI 0) (vc (V.x .slnil V.nil V.nil) V.nil))))) V.nil) j fun m n => st false 5 m g n fun o p => iadV 5 a.c0.c5 a.c0.c2 fun q => lda 5 q p fun r => F150_3 cf p r m a c
def F150_5 : M := fun a b c => addW a.c0.c2 (wI 1) fun d => sl2 d a fun g => c X.n g b
def F150_6 : M := fun a b c => lssW a.c0.c2 a.c0.c3 fun d => seqM (F150_1 d) (seqM (blockM 1 (F150_4 cf)) (F150_5)) a b c
def F150_7 : M := fun a b c => sl4 a.c0.c1 a fun d => lenL a.c0.c1 fun g => sl3 g d fun i => sl2 (wI 0) i fun j => blockM 0 (loopM lf (F150_6 cf)) j b c
def F150_8 : M := fun a b c => sl0 (V.t true) a fun d => c X.r d b
def F150_9 (a b : V) : M := fun c d g => sl0 (V.t false) c fun i => seqM (F150_0 a b) (seqM (F150_7 cf lf) (F150_8)) i d g
def T150 (cf : CallF) (lf : Nat) : V → H → KV → Bool := fun l h k => onCons l fun a b => onCons b fun c d => onCons d fun g i => onNil i ((F150_9 cf lf a c) (⟨⟨V.u, a, V.u, V.u, V.u, c, g, V.u⟩, n8 V.u, n8 V.u, n8 V.u, n8 V.u, n8 V.u, n8 V.u, n8 V.u⟩ : L8) h fun x e h => finK (fun e h k => k e.c0.c0) k x e h)
theorem e150 : FnEq Tryz.prog G LF OF 150 T150 := fun cf lf => by kernel_rfl
theorem c150 : chkF Tryz.prog LF OF 150 = true := by kernel_rfl
def F151_0 (a : V) (b : H) (c d : V) (g : L8) (i : KX) : Bool := guardT a b (fun j => ld1 c b fun m => j m b) fun n o => guardT a o (fun p => fadV 4 d fun q => p q o) fun r s => guardT a s (fun t => ld1 r s fun u => t u s) fun v w => guardT a w (fun y => cf 186 (vc n (vc v V.nil)) w fun a0 b0 => y a0 b0) fun c0 d0 => pickV a c0 (V.t false) fun g0 => sl0 g0 g fun i0 => i X.r i0 d0
def F151_1 (a : V) (b : H) (c d g i : V) (j : L8) (m : KX) : Bool := guardT a b (fun n => eqlW c d fun o => n o b) fun p q => pickV a p (V.t false) fun r => guardT r q (fun s => fadV 4 g fun t => s t q) fun u v => F151_0 cf r v u i j m
def F151_2 (a : V) (b : H) (c d : V) (g : L8) (i : KX) : Bool := guardT a b (fun j => fadV 3 c fun m => j m b) fun n o => guardT a o (fun p => ld1 n o fun q => p q o) fun r s => guardT a s (fun t => fadV 3 d fun u => t u s) fun v w => guardT a w (fun y => ld1 v w fun a0 => y a0 w) fun b0 c0 => F151_1 cf a c0 r b0 c d g i
def F151_3 (a : V) (b : H) (c d g i : V) (j : L8) (m : KX) : Bool := guardT a b (fun n => ld1 c b fun o => n o b) fun p q => guardT a q (fun r => eqlS d p fun s => r s q) fun t u => pickV a t (V.t false) fun v => F151_2 cf v u g i j m
def F151_4 (a : V) (b : H) (c d : V) (g : L8) (i : KX) : Bool := guardT a b (fun j => fadV 2 c fun m => j m b) fun n o => guardT a o (fun p => ld1 n o fun q => p q o) fun r s => guardT a s (fun t => fadV 2 d fun u => t u s) fun v w => F151_3 cf a w v r c d g i
def F151_5 (a : V) (b : H) (c d g : V) (i : L8) (j : KX) : Bool := guardT a b (fun m => fadV 1 c fun n => m n b) fun o p => guardT a p (fun q => ld1 o p fun r => q r p) fun s t => guardT a t (fun u => eqlS d s fun v => u v t) fun w y => pickV a w (V.t false) fun a0 => F151_4 cf a0 y g c i j
def F151_6 (a b : V) (c : H) (d g : V) (i : L8) (j : KX) : Bool := eqlW a b fun m => guardT m c (fun n => fadV 1 d fun o => n o c) fun p q => guardT m q (fun r => ld1 p q fun s => r s q) fun t u => F151_5 cf m u g t d i j
def F151_7 (a b : V) : M := fun c d g => resv 1 d fun i j => newA i false 5 109 a j fun m n => resv 1 n fun o p => newA o false 5 109 b p fun q r => sl0 (V.t false) c fun s => fadV 0 m fun t => ld1 t r fun u => fadV 0 q fun v => ld1 v r fun w => F151_6 cf u w r m q s g
def T151 (cf : CallF) (lf : Nat) : V → H → KV → Bool := fun l h k => onCons l fun a b => onCons b fun c d => onNil d ((F151_7 cf a c) (⟨n8 V.u, n8 V.u, n8 V.u, n8 V.u, n8 V.u, n8 V.u, n8 V.u, n8 V.u⟩ : L8) h fun x e h => finK (fun e h k => k e.c0.c0) k x e h)
theorem e151 : FnEq Tryz.prog G LF OF 151 T151 := fun cf lf => by kernel_rfl
theorem c151 : chkF Tryz.prog LF OF 151 = true := by kernel_rfl
def F155_0 (a b : V) : M := fun c d g => sl0 (wI 0) c fun i => cf 188 (vc a (vc b V.nil)) d fun j m => sl0 j i fun n => g X.r n m
def T155 (cf : CallF) (lf : Nat) : V → H → KV → Bool := fun l h k => onCons l fun a b => onCons b fun c d => onNil d ((F155_0 cf a c) (⟨n8 V.u, n8 V.u, n8 V.u, n8 V.u, n8 V.u, n8 V.u, n8 V.u, n8 V.u⟩ : L8) h fun x e h => finK (fun e h k => k e.c0.c0) k x e h)
theorem e155 : FnEq Tryz.prog G LF OF 155 T155 := fun cf lf => by kernel_rfl
theorem c155 : chkF Tryz.prog LF OF 155 = true := by kernel_rfl
def F157_0 (a : V) (b : H) (c d : V) (g : L8) (i : KX) : Bool := guardT a b (fun j => cf 77 (vc c V.nil) b fun m n => j m n) fun o p => guardT a p (fun q => q d p) fun r s => guardT a s (fun t => lenS r fun u => t u s) fun v w => guardT a w (fun y => eqlW o v fun a0 => y a0 w) fun b0 c0 => pickV a b0 (V.t false) fun d0 => sl0 d0 g fun g0 => i X.r g0 c0
def F157_1 (a : V) : M := fun b c d => sl0 (V.t false) b fun g => neqS a (V.s 0 0) fun i => guardT i c (fun j => j a c) fun m n => F157_0 cf i n m a g d
def T157 (cf : CallF) (lf : Nat) : V → H → KV → Bool := fun l h k => onCons l fun a b => onNil b ((F157_1 cf a) (⟨n8 V.u, n8 V.u, n8 V.u, n8 V.u, n8 V.u, n8 V.u, n8 V.u, n8 V.u⟩ : L8) h fun x e h => finK (fun e h k => k e.c0.c0) k x e h)
theorem e157 : FnEq Tryz.prog G LF OF 157 T157 := fun cf lf => by kernel_rfl
theorem c157 : chkF Tryz.prog LF OF 157 = true := by kernel_rfl
def F164_0 (a : V) (b : H) (c d : V) (g : L8) (i : KX) : Bool := ld1 a b fun j => app 1 5 j c b fun m n => nilckV d fun o => fadV 1 o fun p => st true 1 p m n fun q r => lenS c fun s => sl0 s g fun t => sl1 (V.x .inil V.nil V.nil) t fun u => i X.r u r
def F164_1 (a b : V) : M := fun c d g => sl0 (wI 0) c fun i => sl1 (V.x .inil V.nil V.nil) i fun j => cf 165 (vc a V.nil) d fun m n => nilckV a fun o => fadV 1 o fun p => F164_0 p n b a j g
def T164 (cf : CallF) (lf : Nat) : V → H → KV → Bool := fun l h k => onCons l fun a b => onCons b fun c d => onNil d ((F164_1 cf a c) (⟨n8 V.u, n8 V.u, n8 V.u, n8 V.u, n8 V.u, n8 V.u, n8 V.u, n8 V.u⟩ : L8) h fun x e h => finK (fun e h k => k (V.x .tup (vc e.c0.c0 (vc e.c0.c1 V.nil)) V.nil)) k x e h)
theorem e164 : FnEq Tryz.prog G LF OF 164 T164 := fun cf lf => by kernel_rfl
theorem c164 : chkF Tryz.prog LF OF 164 = true := by kernel_rfl
def F165_0 (a : V) (b : H) (c : KX) (d : L8) : Bool := cvU a b fun g => cf 193 (vc g V.nil) b fun i j => cvP 133 2 i j fun m => nilckV a fun n => fadV 0 n fun o => st true 1 o m j fun p q => c X.n d q
def F165_1 (a b : V) (c : H) (d : KX) (g : L8) : Bool := condV a (F165_0 cf b c d g) (nilckV b fun i => fadV 0 i fun j => ld1 j c fun m => eqPt nots m b fun n => condV n (false) (d X.n g c))
def F165_2 (a : V) : M := fun b c d => nilckV a fun g => fadV 0 g fun i => ld1 i c fun j => eqPt idB j (V.x .pnil V.nil V.nil) fun m => F165_1 cf m a c d b
def T165 (cf : CallF) (lf : Nat) : V → H → KV → Bool := fun l h k => onCons l fun a b => onNil b ((F165_2 cf a) (⟨n8 V.u, n8 V.u, n8 V.u, n8 V.u, n8 V.u, n8 V.u, n8 V.u, n8 V.u⟩ : L8) h fun x e h => finK (fun e h k => k (V.x .tup V.nil V.nil)) k x e h)
theorem e165 : FnEq Tryz.prog G LF OF 165 T165 := fun cf lf => by kernel_rfl
theorem c165 : chkF Tryz.prog LF OF 165 = true := by kernel_rfl
def F167_0 (a : V) (b : H) (c d g : V) (i : L8) (j : KX) : Bool := guardT a b (fun m => lenS c fun n => m n b) fun o p => guardT a p (fun q => sstr none (some o) d fun r => q r p) fun s t => guardT a t (fun u => u g t) fun v w => guardT a w (fun y => eqlS s v fun a0 => y a0 w) fun b0 c0 => pickV a b0 (V.t false) fun d0 => sl0 d0 i fun g0 => j X.r g0 c0
def F167_1 (a b : V) (c : H) (d : L8) (g : KX) : Bool := lenS a fun i => lenS b fun j => geqV i j fun m => guardT m c (fun n => n a c) fun o p => guardT m p (fun q => q b p) fun r s => F167_0 m s r o b d g
def F167_2 (a b : V) : M := fun c d g => sl0 (V.t false) c fun i => F167_1 a b d i g
def T167 (cf : CallF) (lf : Nat) : V → H → KV → Bool := fun l h k => onCons l fun a b => onCons b fun c d => onNil d ((F167_2 a c) (⟨n8 V.u, n8 V.u, n8 V.u, n8 V.u, n8 V.u, n8 V.u, n8 V.u, n8 V.u⟩ : L8) h fun x e h => finK (fun e h k => k e.c0.c0) k x e h)
theorem e167 : FnEq Tryz.prog G LF OF 167 T167 := fun cf lf => by kernel_rfl
theorem c167 : chkF Tryz.prog LF OF 167 = true := by kernel_rfl
def F168_0 (a b : V) : M := fun c d g => cf 141 (vc a V.nil) d fun i j => neqS i b fun m => condV m (sl0 (V.t false) c fun n => g X.r n j) (g X.n c j)
def F168_1 (a : V) (b : L8) (c : H) (d : KX) : Bool := addW a (wI 1) fun g => nilckV b.c0.c1 fun i => fadV 1 i fun j => st true 1 j g c fun m n => sl0 (V.t true) b fun o => d X.r o n
def F168_2 : M := fun a b c => nilckV a.c0.c1 fun d => fadV 1 d fun g => ld1 g b fun i => F168_1 i a b c
def F168_3 (a b : V) : M := fun c d g => sl0 (V.t false) c fun i => seqM (F168_0 cf a b) (F168_2) i d g
def T168 (cf : CallF) (lf : Nat) : V → H → KV → Bool := fun l h k => onCons l fun a b => onCons b fun c d => onNil d ((F168_3 cf a c) (⟨⟨V.u, a, V.u, V.u, V.u, V.u, V.u, V.u⟩, n8 V.u, n8 V.u, n8 V.u, n8 V.u, n8 V.u, n8 V.u, n8 V.u⟩ : L8) h fun x e h => finK (fun e h k => k e.c0.c0) k x e h)
theorem e168 : FnEq Tryz.prog G LF OF 168 T168 := fun cf lf => by kernel_rfl
theorem c168 : chkF Tryz.prog LF OF 168 = true := by kernel_rfl
def F169_0 (a b : V) : M := fun c d g => cf 109 (vc a V.nil) d fun i j => notV i fun m => condV m (cf 172 (vc b V.nil) j fun n o => sl0 (V.s 0 0) c fun p => sl1 n p fun q => g X.r q o) (g X.n c j)
def F169_1 (a : V) (b : L8) (c : H) (d : KX) : Bool := addW a (wI 1) fun g => nilckV b.c0.c2 fun i => fadV 1 i fun j => st true 1 j g c fun m n => sl0 b.c0.c3 b fun o => sl1 (V.x .inil V.nil V.nil) o fun p => d X.r p n
def F169_2 : M := fun a b c => nilckV a.c0.c2 fun d => fadV 1 d fun g => ld1 g b fun i => F169_1 i a b c
def F169_3 (a : V) : M := fun b c d => sl0 (V.s 0 0) b fun g => sl1 (V.x .inil V.nil V.nil) g fun i => cf 141 (vc a V.nil) c fun j m => sl3 j i fun n => seqM (F169_0 cf j a) (F169_2) n m d
def T169 (cf : CallF) (lf : Nat) : V → H → KV → Bool := fun l h k => onCons l fun a b => onNil b ((F169_3 cf a) (⟨⟨V.u, V.u, a, V.u, V.u, V.u, V.u, V.u⟩, n8 V.u, n8 V.u, n8 V.u, n8 V.u, n8 V.u, n8 V.u, n8 V.u⟩ : L8) h fun x e h => finK (fun e h k => k (V.x .tup (vc e.c0.c0 (vc e.c0.c1 V.nil)) V.nil)) k x e h)
theorem e169 : FnEq Tryz.prog G LF OF 169 T169 := fun cf lf => by kernel_rfl
theorem c169 : chkF Tryz.prog LF OF 169 = true := by kernel_rfl
def F170_0 (a : V) : M := fun b c d => eqN nilI nots a (V.x .inil V.nil V.nil) fun g => condV g (sl0 (V.x .slnil V.nil V.nil) b fun i => sl1 a i fun j => d X.r j c) (d X.n b c)
def F170_1 (a : L8) (b : H) (c : V) (d : KX) : Bool := cf 168 (vc a.c0.c4 (vc a.c0.c5 V.nil)) b fun g i => condV g (sl0 c a fun j => sl1 (V.x .inil V.nil V.nil) j fun m => d X.r m i) (d X.n a i)
def F170_2 : M := fun a b c => resv 1 b fun d g => part 0 true 1 a.c0.c3 (vc (wI 0) V.nil) fun i => bslA d 1 1 3 i g fun j m => app 1 3 a.c0.c0 j m fun n o => sl0 n a fun p => F170_1 cf p o n c
def F170_3 : M := fun a b c => callV cf a.c0.c2 V.nil b fun d g => ext 0 d fun i => ext 1 d fun j => sl3 i a fun m => seqM (F170_0 j) (F170_2 cf) m g c
def F170_4 : M := fun a b c => sl0 (V.x .slnil V.nil V.nil) a fun d => sl1 (V.x .inil V.nil V.nil) d fun g => blockM 0 (loopM lf (blockM 1 (F170_3 cf))) g b c
def T170 (cf : CallF) (lf : Nat) : V → H → KV → Bool := fun l h k => onCons l fun a b => onCons b fun c d => onCons d fun g i => onNil i ((F170_4 cf lf) (⟨⟨V.u, V.u, g, V.u, a, c, V.u, V.u⟩, n8 V.u, n8 V.u, n8 V.u, n8 V.u, n8 V.u, n8 V.u, n8 V.u⟩ : L8) h fun x e h => finK (fun e h k => k (V.x .tup (vc e.c0.c0 (vc e.c0.c1 V.nil)) V.nil)) k x e h)
theorem e170 : FnEq Tryz.prog G LF OF 170 T170 := fun cf lf => by kernel_rfl
theorem c170 : chkF Tryz.prog LF OF 170 = true := by kernel_rfl
def F171_0 (a : V) (b : H) (c : V) (d : L8) (g : KX) : Bool := cf 169 (vc a V.nil) b fun i j => ext 0 i fun m => ext 1 i fun n => fadV 1 c fun o => st true 1 o m j fun p q => sl2 n d fun r => g X.n r q
def F171_1 (a b c : V) : M := fun d g i => eqN nilI idB a (V.x .inil V.nil V.nil) fun j => condV j (F171_0 cf b g c d i) (i X.n d g)
def F171_2 : M := fun a b c => eqN nilI idB a.c0.c2 (V.x .inil V.nil V.nil) fun d => condV d (cf 173 (vc a.c0.c3 (vc (V.s 1 58) V.nil)) b fun g i => sl2 g a fun j => c X.n j i) (c X.n a b)
def F171_3 (a : L8) (b : H) (c : KX) : Bool := cf 169 (vc a.c0.c3 V.nil) b fun d g => ext 0 d fun i => ext 1 d fun j => fadV 2 a.c0.c4 fun m => st true 1 m i g fun n o => sl2 j a fun p => c X.n p o
def F171_4 : M := fun a b c => eqN nilI idB a.c0.c2 (V.x .inil V.nil V.nil) fun d => condV d (F171_3 cf a b c) (c X.n a b)
def F171_5 (a : V) (b : H) (c : V) (d : L8) (g : KX) : Bool := guardT a b (fun i => cf 168 (vc c (vc (V.s 1 33) V.nil)) b fun j m => i j m) fun n o => pickV a n (V.t false) fun p => condV p (fadV 3 d.c0.c4 fun q => st true 1 q (wI 1) o fun r s => g X.n d s) (g X.n d o)
def F171_6 : M := fun a b c => eqN nilI idB a.c0.c2 (V.x .inil V.nil V.nil) fun d => guardT d b (fun g => g a.c0.c3 b) fun i j => F171_5 cf d j i a c
def F171_7 : M := fun a b c => lda 5 a.c0.c4 b fun d => cf 84 (vc a.c0.c3 (vc d (vc a.c0.c2 V.nil))) b fun g i => ext 0 g fun j => ext 1 g fun m => sl0 j a fun n => sl1 m n fun o => c X.r o i
def F171_8 (a : V) (b : H) (c : L8) (d : V) (g : KX) : Bool := cf 173 (vc a (vc (V.s 1 36) V.nil)) b fun i j => sl2 i c fun m => seqM (F171_1 cf i a d) (seqM (F171_2 cf) (seqM (F171_4 cf) (seqM (F171_6 cf) (F171_7 cf)))) m j g
def F171_9 (a : H) (b : L8) (c : V) (d : KX) : Bool := part 0 true 1 (wI 3) (vc (wI 0) (vc (V.s 0 0) (vc (V.s 0 0) (vc (wI 0) (vc (V.x .slnil V.nil V.nil) V.nil))))) fun g => resv 1 a fun i j => newA i false 5 109 (V.x .agg (vc (wI 0) (vc (V.s 0 0) (vc (V.s 0 0) (vc (wI 0) (vc (V.x .slnil V.nil V.nil) V.nil))))) V.nil) j fun m n => sl4 m b fun o => st false 5 m (V.x .agg g V.nil) n fun p q => F171_8 cf c q o m d
def F171_10 (a : V) : M := fun b c d => sl0 (wI 0) b fun g => sl1 (V.x .inil V.nil V.nil) g fun i => F171_9 cf c i a d
def T171 (cf : CallF) (lf : Nat) : V → H → KV → Bool := fun l h k => onCons l fun a b => onNil b ((F171_10 cf a) (⟨⟨V.u, V.u, V.u, a, V.u, V.u, V.u, V.u⟩, n8 V.u, n8 V.u, n8 V.u, n8 V.u, n8 V.u, n8 V.u, n8 V.u⟩ : L8) h fun x e h => finK (fun e h k => k (V.x .tup (vc e.c0.c0 (vc e.c0.c1 V.nil)) V.nil)) k x e h)
theorem e171 : FnEq Tryz.prog G LF OF 171 T171 := fun cf lf => by kernel_rfl
theorem c171 : chkF Tryz.prog LF OF 171 = true := by kernel_rfl
def F172_0 (a : V) (b : H) (c : L8) (d : KX) : Bool := cf 174 (vc a V.nil) b fun g i => part 0 true 1 (wI 4) (vc (wI 0) (vc (wI 0) V.nil)) fun j => part 1 true 1 g j fun m => resv 1 i fun n o => newA n false 2 102 (V.x .agg m V.nil) o fun p q => sl0 (V.x (.iface 95) p V.nil) c fun r => d X.r r q
def F172_1 (a : V) : M := fun b c d => sl0 (V.x .inil V.nil V.nil) b fun g => F172_0 cf a c g d
def T172 (cf : CallF) (lf : Nat) : V → H → KV → Bool := fun l h k => onCons l fun a b => onNil b ((F172_1 cf a) (⟨n8 V.u, n8 V.u, n8 V.u, n8 V.u, n8 V.u, n8 V.u, n8 V.u, n8 V.u⟩ : L8) h fun x e h => finK (fun e h k => k e.c0.c0) k x e h)
theorem e172 : FnEq Tryz.prog G LF OF 172 T172 := fun cf lf => by kernel_rfl
theorem c172 : chkF Tryz.prog LF OF 172 = true := by kernel_rfl
def F173_0 (a b : V) : M := fun c d g => cf 141 (vc a V.nil) d fun i j => neqS i b fun m => condV m (cf 172 (vc a V.nil) j fun n o => sl0 n c fun p => g X.r p o) (g X.n c j)
def F173_1 (a : V) (b : L8) (c : H) (d : KX) : Bool := addW a (wI 1) fun g => nilckV b.c0.c1 fun i => fadV 1 i fun j => st true 1 j g c fun m n => sl0 (V.x .inil V.nil V.nil) b fun o => d X.r o n
def F173_2 : M := fun a b c => nilckV a.c0.c1 fun d => fadV 1 d fun g => ld1 g b fun i => F173_1 i a b c
def F173_3 (a b : V) : M := fun c d g => sl0 (V.x .inil V.nil V.nil) c fun i => seqM (F173_0 cf a b) (F173_2) i d g
def T173 (cf : CallF) (lf : Nat) : V → H → KV → Bool := fun l h k => onCons l fun a b => onCons b fun c d => onNil d ((F173_3 cf a c) (⟨⟨V.u, a, V.u, V.u, V.u, V.u, V.u, V.u⟩, n8 V.u, n8 V.u, n8 V.u, n8 V.u, n8 V.u, n8 V.u, n8 V.u⟩ : L8) h fun x e h => finK (fun e h k => k e.c0.c0) k x e h)
theorem e173 : FnEq Tryz.prog G LF OF 173 T173 := fun cf lf => by kernel_rfl
theorem c173 : chkF Tryz.prog LF OF 173 = true := by kernel_rfl
def F174_0 (a : V) (b : H) (c : V) (d : L8) (g : KX) : Bool := nilckV a fun i => fadV 1 i fun j => ld1 j b fun m => iadV 2 c m fun n => fadV 1 n fun o => ld1 o b fun p => sl0 p d fun q => g X.r q b
def F174_1 (a b : V) (c : H) (d : V) (g : L8) (i : KX) : Bool := lenL a fun j => lssW b j fun m => condV m (resv 0 c fun n o => nilckV d fun p => fadV 0 p fun q => ld1 q o fun r => F174_0 d o r g i) (i X.n g c)
def F174_2 (a : V) : M := fun b c d => resv 0 c fun g i => nilckV a fun j => fadV 1 j fun m => ld1 m i fun n => nilckV a fun o => fadV 0 o fun p => ld1 p i fun q => F174_1 q n i a b d
def F174_3 : M := fun a b c => nilckV a.c0.c1 fun d => fadV 2 d fun g => ld1 g b fun i => sl0 i a fun j => c X.r j b
def F174_4 (a : V) : M := fun b c d => sl0 (wI 0) b fun g => seqM (F174_2 a) (F174_3) g c d
def T174 (cf : CallF) (lf : Nat) : V → H → KV → Bool := fun l h k => onCons l fun a b => onNil b ((F174_4 a) (⟨⟨V.u, a, V.u, V.u, V.u, V.u, V.u, V.u⟩, n8 V.u, n8 V.u, n8 V.u, n8 V.u, n8 V.u, n8 V.u, n8 V.u⟩ : L8) h fun x e h => finK (fun e h k => k e.c0.c0) k x e h)
theorem e174 : FnEq Tryz.prog G LF OF 174 T174 := fun cf lf => by kernel_rfl
theorem c174 : chkF Tryz.prog LF OF 174 = true := by kernel_rfl
def F175_0 (a b : V) (c : H) (d : L8) (g : KX) : Bool := condV a (cf 198 (vc b V.nil) c fun i j => ext 0 i fun m => ext 1 i fun n => sl0 m d fun o => sl1 n o fun p => g X.r p j) (g X.n d c)
def F175_1 (a : V) : M := fun b c d => cf 168 (vc a (vc (V.s 3 3026478) V.nil)) c fun g i => notV g fun j => F175_0 cf j a i b d
def F175_2 (a : V) (b : L8) (c : KX) (d : H) : Bool := eqN nilI nots a (V.x .inil V.nil V.nil) fun g => condV g (sl0 (wI 0) b fun i => sl1 a i fun j => c X.r j d) (c X.n b d)
def F175_3 (a : L8) (b : H) (c : V) (d : KX) : Bool := cf 169 (vc a.c0.c2 V.nil) b fun g i => ext 0 g fun j => ext 1 g fun m => fadV 2 c fun n => st true 1 n j i fun o p => F175_2 m a d p
def F175_4 (a : V) (b : L8) (c : H) (d : V) (g : KX) : Bool := addW a (wI 1) fun i => nilckV b.c0.c2 fun j => fadV 1 j fun m => st true 1 m i c fun n o => F175_3 cf b o d g
def F175_5 (a : V) (b : H) (c : L8) (d : V) (g : KX) : Bool := lda 5 a b fun i => cf 84 (vc c.c0.c2 (vc i (vc d V.nil))) b fun j m => ext 0 j fun n => ext 1 j fun o => sl0 n c fun p => sl1 o p fun q => g X.r q m
def F175_6 (a : L8) (b : H) (c : V) (d : KX) : Bool := cf 199 (vc a.c0.c2 V.nil) b fun g i => ext 0 g fun j => ext 1 g fun m => fadV 4 c fun n => st true 1 n j i fun o p => F175_5 cf c p a m d
def F175_7 (a : V) (b : H) (c : V) (d : L8) (g : KX) : Bool := fadV 0 a fun i => st true 1 i (wI 7) b fun j m => fadV 1 a fun n => st true 1 n c m fun o p => F175_6 cf d p a g
def F175_8 (a : V) (b : L8) (c : H) (d g : V) (i : KX) : Bool := addW a (wI 1) fun j => nilckV b.c0.c2 fun m => fadV 1 m fun n => st true 1 n j c fun o p => F175_7 cf d p g b i
def F175_9 (a : V) (b : H) (c : L8) (d : V) (g : KX) : Bool := cf 109 (vc a V.nil) b fun i j => condV i (nilckV c.c0.c2 fun m => fadV 1 m fun n => ld1 n j fun o => F175_8 cf o c j d a g) (g X.n c j)
def F175_10 (a b : V) : M := fun c d g => eqlS a (V.s 2 28271) fun i => condV i (nilckV c.c0.c2 fun j => fadV 1 j fun m => ld1 m d fun n => F175_4 cf n c d b g) (F175_9 cf a d c b g)
def F175_11 (a : V) : M := fun b c d => cf 141 (vc b.c0.c2 V.nil) c fun g i => blockM 0 (F175_10 cf g a) b i d
def F175_12 (a : L8) (b : H) (c : V) (d : KX) : Bool := lda 5 a.c0.c3 b fun g => cf 84 (vc a.c0.c2 (vc g (vc c V.nil))) b fun i j => ext 0 i fun m => ext 1 i fun n => sl0 m a fun o => sl1 n o fun p => d X.r p j
def F175_13 : M := fun a b c => cf 200 (vc a.c0.c2 (vc (V.t true) V.nil)) b fun d g => ext 0 d fun i => ext 1 d fun j => fadV 4 a.c0.c3 fun m => st true 1 m i g fun n o => F175_12 cf a o j c
def F175_14 : M := fun a b c => part 0 true 1 (wI 8) (vc (wI 0) (vc (V.s 0 0) (vc (V.s 0 0) (vc (wI 0) (vc (V.x .slnil V.nil V.nil) V.nil))))) fun d => resv 1 b fun g i => newA g false 5 109 (V.x .agg (vc (wI 0) (vc (V.s 0 0) (vc (V.s 0 0) (vc (wI 0) (vc (V.x .slnil V.nil V.nil) V.nil))))) V.nil) i fun j m => sl3 j a fun n => st false 5 j (V.x .agg d V.nil) m fun o p => seqM (F175_11 cf j) (F175_13 cf) n p c
def F175_15 (a : V) : M := fun b c d => sl0 (wI 0) b fun g => sl1 (V.x .inil V.nil V.nil) g fun i => seqM (F175_1 cf a) (F175_14 cf) i c d
def T175 (cf : CallF) (lf : Nat) : V → H → KV → Bool := fun l h k => onCons l fun a b => onNil b ((F175_15 cf a) (⟨⟨V.u, V.u, a, V.u, V.u, V.u, V.u, V.u⟩, n8 V.u, n8 V.u, n8 V.u, n8 V.u, n8 V.u, n8 V.u, n8 V.u⟩ : L8) h fun x e h => finK (fun e h k => k (V.x .tup (vc e.c0.c0 (vc e.c0.c1 V.nil)) V.nil)) k x e h)
theorem e175 : FnEq Tryz.prog G LF OF 175 T175 := fun cf lf => by kernel_rfl
theorem c175 : chkF Tryz.prog LF OF 175 = true := by kernel_rfl
def F176_0 (a : V) (b : H) (c : V) (d : L8) (g : KX) : Bool := guardF a b (fun i => neqS c (V.s 1 40) fun j => i j b) fun m n => pickV a (V.t true) m fun o => condV o (sl0 (V.x .slnil V.nil V.nil) d fun p => g X.r p n) (g X.n d n)
def F176_1 (a : V) (b : H) (c : V) (d : L8) (g : KX) : Bool := neqW a (wI 0) fun i => guardF i b (fun j => j c b) fun m n => guardF i n (fun o => cf 86 (vc m V.nil) n fun p q => o p q) fun r s => F176_0 i s r d g
def F176_2 (a : V) : M := fun b c d => nilckV a fun g => fadV 6 g fun i => ld1 i c fun j => F176_1 cf j c a b d
def F176_3 (a : V) (b : H) (c d : V) (g : KX) (i : L8) : Bool := guardF a b (fun j => neqS c (V.s 1 41) fun m => j m b) fun n o => guardT d o (fun p => pickV a (V.t true) n fun q => p q o) fun r s => pickV d r (V.t false) fun t => condV t (g X.n i s) (g (X.x 0) i s)
def F176_4 (a : V) (b : H) (c : V) (d : L8) (g : KX) : Bool := guardT a b (fun i => eqlW c (wI 0) fun j => i j b) fun m n => guardT a n (fun o => o m n) fun p q => guardF p q (fun r => r d.c0.c1 q) fun s t => guardF p t (fun u => cf 86 (vc s V.nil) t fun v w => u v w) fun y a0 => F176_3 p a0 y a g d
def F176_5 (a : V) (b : H) (c : L8) (d : KX) : Bool := eqlW a (wI 0) fun g => guardT g b (fun i => i c.c0.c2 b) fun j m => guardT g m (fun n => lenL j fun o => n o m) fun p q => F176_4 cf g q p c d
def F176_6 : M := fun a b c => nilckV a.c0.c1 fun d => fadV 6 d fun g => ld1 g b fun i => F176_5 cf i b a c
def F176_7 (a : H) (b : V) (c : L8) (d : KX) : Bool := resv 1 a fun g i => part 0 true 1 b (vc (wI 0) V.nil) fun j => bslA g 1 1 3 j i fun m n => app 1 3 c.c0.c2 m n fun o p => sl2 o c fun q => d X.n q p
def F176_8 (a b : V) (c : H) (d : L8) (g : KX) : Bool := eqlW a (wI 0) fun i => condV i (lda 5 b c fun j => cf 50 (vc d.c0.c1 (vc j V.nil)) c fun m n => F176_7 n m d g) (g X.n d c)
def F176_9 (a : L8) (b : H) (c : V) (d : KX) : Bool := cf 201 (vc a.c0.c1 V.nil) b fun g i => resv 1 i fun j m => part 0 true 1 g (vc (wI 0) V.nil) fun n => bslA j 1 1 3 n m fun o p => fadV 4 c fun q => st true 1 q o p fun r s => nilckV a.c0.c1 fun t => fadV 6 t fun u => ld1 u s fun v => F176_8 cf v c s a d
def F176_10 : M := fun a b c => cf 89 (vc a.c0.c1 V.nil) b fun d g => part 0 true 1 (wI 5) (vc (wI 0) (vc (V.s 0 0) (vc (V.s 0 0) (vc (wI 0) (vc (V.x .slnil V.nil V.nil) V.nil))))) fun i => part 1 true 1 d i fun j => resv 1 g fun m n => newA m false 5 109 (V.x .agg (vc (wI 0) (vc (V.s 0 0) (vc (V.s 0 0) (vc (wI 0) (vc (V.x .slnil V.nil V.nil) V.nil))))) V.nil) n fun o p => st false 5 o (V.x .agg j V.nil) p fun q r => cf 90 (vc a.c0.c1 (vc (V.s 1 58) V.nil)) r fun s t => F176_9 cf a t o c
def F176_11 : M := fun a b c => cf 90 (vc a.c0.c1 (vc (V.s 1 41) V.nil)) b fun d g => sl0 a.c0.c2 a fun i => c X.r i g
def F176_12 (a : V) (b : L8) (c : H) (d : KX) : Bool := addW a (wI 1) fun g => nilckV b.c0.c1 fun i => fadV 2 i fun j => st true 1 j g c fun m n => seqM (blockM 0 (loopM lf (seqM (F176_6 cf) (blockM 1 (F176_10 cf))))) (F176_11 cf) b n d
def F176_13 : M := fun a b c => nilckV a.c0.c1 fun d => fadV 2 d fun g => ld1 g b fun i => F176_12 cf lf i a b c
def F176_14 (a : V) : M := fun b c d => sl0 (V.x .slnil V.nil V.nil) b fun g => sl2 (V.x .slnil V.nil V.nil) g fun i => seqM (F176_2 cf a) (F176_13 cf lf) i c d
def T176 (cf : CallF) (lf : Nat) : V → H → KV → Bool := fun l h k => onCons l fun a b => onNil b ((F176_14 cf lf a) (⟨⟨V.u, a, V.u, V.u, V.u, V.u, V.u, V.u⟩, n8 V.u, n8 V.u, n8 V.u, n8 V.u, n8 V.u, n8 V.u, n8 V.u⟩ : L8) h fun x e h => finK (fun e h k => k e.c0.c0) k x e h)
theorem e176 : FnEq Tryz.prog G LF OF 176 T176 := fun cf lf => by kernel_rfl
theorem c176 : chkF Tryz.prog LF OF 176 = true := by kernel_rfl
def F177_0 (a : V) (b : H) (c : V) (d : KX) (g : L8) : Bool := guardT a b (fun i => eqlS c (V.s 1 64) fun j => i j b) fun m n => pickV a m (V.t false) fun o => condV o (d X.n g n) (d (X.x 0) g n)
def F177_1 (a : V) (b : H) (c : L8) (d : KX) : Bool := eqlW a (wI 0) fun g => guardT g b (fun i => i c.c0.c1 b) fun j m => guardT g m (fun n => cf 86 (vc j V.nil) m fun o p => n o p) fun q r => F177_0 g r q d c
def F177_2 : M := fun a b c => nilckV a.c0.c1 fun d => fadV 6 d fun g => ld1 g b fun i => F177_1 cf i b a c
def F177_3 (a : H) (b : V) (c : L8) (d : KX) : Bool := resv 1 a fun g i => part 0 true 1 b (vc (wI 0) V.nil) fun j => bslA g 1 1 3 j i fun m n => app 1 3 c.c0.c2 m n fun o p => sl2 o c fun q => d X.n q p
def F177_4 (a b : V) (c : H) (d : L8) (g : KX) : Bool := eqlW a (wI 0) fun i => condV i (lda 5 b c fun j => cf 50 (vc d.c0.c1 (vc j V.nil)) c fun m n => F177_3 n m d g) (g X.n d c)
def F177_5 (a : L8) (b : H) (c : V) (d : KX) : Bool := cf 176 (vc a.c0.c1 V.nil) b fun g i => fadV 4 c fun j => st true 1 j g i fun m n => nilckV a.c0.c1 fun o => fadV 6 o fun p => ld1 p n fun q => F177_4 cf q c n a d
def F177_6 (a : L8) (b : H) (c : KX) : Bool := cf 89 (vc a.c0.c1 V.nil) b fun d g => part 0 true 1 (wI 6) (vc (wI 0) (vc (V.s 0 0) (vc (V.s 0 0) (vc (wI 0) (vc (V.x .slnil V.nil V.nil) V.nil))))) fun i => part 1 true 1 d i fun j => resv 1 g fun m n => newA m false 5 109 (V.x .agg (vc (wI 0) (vc (V.s 0 0) (vc (V.s 0 0) (vc (wI 0) (vc (V.x .slnil V.nil V.nil) V.nil))))) V.nil) n fun o p => st false 5 o (V.x .agg j V.nil) p fun q r => F177_5 cf a r o c
def F177_7 : M := fun a b c => nilckV a.c0.c1 fun d => fadV 2 d fun g => ld1 g b fun i => addW i (wI 1) fun j => nilckV a.c0.c1 fun m => fadV 2 m fun n => st true 1 n j b fun o p => F177_6 cf a p c
def F177_8 : M := fun a b c => sl0 a.c0.c2 a fun d => c X.r d b
def F177_9 : M := fun a b c => sl0 (V.x .slnil V.nil V.nil) a fun d => sl2 (V.x .slnil V.nil V.nil) d fun g => seqM (blockM 0 (loopM lf (seqM (F177_2 cf) (blockM 1 (F177_7 cf))))) (F177_8) g b c
def T177 (cf : CallF) (lf : Nat) : V → H → KV → Bool := fun l h k => onCons l fun a b => onNil b ((F177_9 cf lf) (⟨⟨V.u, a, V.u, V.u, V.u, V.u, V.u, V.u⟩, n8 V.u, n8 V.u, n8 V.u, n8 V.u, n8 V.u, n8 V.u, n8 V.u⟩ : L8) h fun x e h => finK (fun e h k => k e.c0.c0) k x e h)
theorem e177 : FnEq Tryz.prog G LF OF 177 T177 := fun cf lf => by kernel_rfl
theorem c177 : chkF Tryz.prog LF OF 177 = true := by kernel_rfl
def F178_0 (a : V) (b : H) (c : V) (d : L8) (g : KX) : Bool := guardF a b (fun i => ld1 c b fun j => i j b) fun m n => guardF a n (fun o => lenS m fun p => o p n) fun q r => guardF a r (fun s => gtrW q (wI 12) fun t => s t r) fun u v => pickV a (V.t true) u fun w => condV w (sl0 (V.t false) d fun y => g X.r y v) (g X.n d v)
def F178_1 (a : V) (b : H) (c d : V) (g : L8) (i : KX) : Bool := guardF a b (fun j => gtrW c (wI 40) fun m => j m b) fun n o => pickV a (V.t true) n fun p => guardF p o (fun q => fadV 2 d fun r => q r o) fun s t => F178_0 p t s g i
def F178_2 (a : V) (b : H) (c : V) (d : L8) (g : KX) : Bool := guardF a b (fun i => fadV 1 c fun j => i j b) fun m n => guardF a n (fun o => ld1 m n fun p => o p n) fun q r => guardF a r (fun s => lenS q fun t => s t r) fun u v => F178_1 a v u c d g
def F178_3 (a : V) (b : H) (c : V) (d : L8) (g : KX) : Bool := guardF a b (fun i => fadV 0 c fun j => i j b) fun m n => guardF a n (fun o => ld1 m n fun p => o p n) fun q r => guardF a r (fun s => gtrW q (wI 14) fun t => s t r) fun u v => pickV a (V.t true) u fun w => F178_2 w v c d g
def F178_4 (a : V) (b : H) (c d : V) (g : L8) (i : KX) : Bool := guardF a b (fun j => ld1 c b fun m => j m b) fun n o => guardF a o (fun p => lssW n (wI 1) fun q => p q o) fun r s => pickV a (V.t true) r fun t => F178_3 t s d g i
def F178_5 (a : V) (b : H) (c d : V) (g : L8) (i : KX) : Bool := nilckV a fun j => fadV 0 j fun m => ld1 m b fun n => lenL n fun o => gtrW c o fun p => guardF p b (fun q => fadV 0 d fun r => q r b) fun s t => F178_4 p t s d g i
def F178_6 (a b : V) : M := fun c d g => resv 0 d fun i j => nilckV a fun m => fadV 2 m fun n => ld1 n j fun o => F178_5 a j o b c g
def F178_7 (a : V) : M := fun b c d => condV a (d X.n b c) (d (X.x 0) b c)
def F178_8 (a : V) (b : H) (c : L8) (d : V) (g : KX) : Bool := guardF a b (fun i => i c.c0.c5 b) fun j m => guardF a m (fun n => geqV d j fun o => n o m) fun p q => pickV a (V.t true) p fun r => condV r (sl0 (V.t false) c fun s => g X.r s q) (g X.n c q)
def F178_9 : M := fun a b c => iadV 1 a.c0.c4 a.c0.c2 fun d => ld1 d b fun g => lssW g (wI 0) fun i => guardF i b (fun j => j g b) fun m n => F178_8 i n a m c
def F178_10 : M := fun a b c => addW a.c0.c2 (wI 1) fun d => sl2 d a fun g => c X.n g b
def F178_11 : M := fun a b c => lssW a.c0.c2 a.c0.c3 fun d => seqM (F178_7 d) (seqM (blockM 1 (F178_9)) (F178_10)) a b c
def F178_12 : M := fun a b c => fadV 4 a.c0.c1 fun d => ld1 d b fun g => sl4 g a fun i => lenL g fun j => sl3 j i fun m => sl2 (wI 0) m fun n => blockM 0 (loopM lf (F178_11)) n b c
def F178_13 : M := fun a b c => sl0 (V.t true) a fun d => c X.r d b
def F178_14 (a b : V) (c : H) (d : L8) (g : V) (i : KX) : Bool := iadV 5 a b fun j => lda 5 j c fun m => resv 1 c fun n o => newA n false 5 109 (V.x .agg (vc (wI 0) (vc (V.s 0 0) (vc (V.s 0 0) (vc (wI 0) (vc (V.x .slnil V.nil V.nil) V.nil))))) V.nil) o fun p q => sl1 p d fun r => st false 5 p m q fun s t => seqM (F178_6 g p) (seqM (F178_12 lf) (F178_13)) r t i
def F178_15 (a b : V) (c : H) (d : V) (g : L8) (i : KX) : Bool := addW a (wI 1) fun j => nilckV b fun m => fadV 2 m fun n => st true 1 n j c fun o p => nilckV b fun q => fadV 0 q fun r => ld1 r p fun s => F178_14 lf s d p g b i
def F178_16 (a b : V) : M := fun c d g => sl0 (V.t false) c fun i => nilckV a fun j => fadV 2 j fun m => ld1 m d fun n => F178_15 lf n a d b i g
def T178 (cf : CallF) (lf : Nat) : V → H → KV → Bool := fun l h k => onCons l fun a b => onCons b fun c d => onNil d ((F178_16 lf a c) (⟨⟨V.u, V.u, V.u, V.u, V.u, c, V.u, V.u⟩, n8 V.u, n8 V.u, n8 V.u, n8 V.u, n8 V.u, n8 V.u, n8 V.u⟩ : L8) h fun x e h => finK (fun e h k => k e.c0.c0) k x e h)
theorem e178 : FnEq Tryz.prog G LF OF 178 T178 := fun cf lf => by kernel_rfl
theorem c178 : chkF Tryz.prog LF OF 178 = true := by kernel_rfl
def F179_0 (a : V) : M := fun b c d => condV a (d X.n b c) (d (X.x 0) b c)
def F179_1 : M := fun a b c => iadV 1 a.c0.c2 a.c0.c0 fun d => ld1 d b fun g => cf 148 (vc a.c0.c3 (vc g V.nil)) b fun i j => c X.n a j
def F179_2 : M := fun a b c => addW a.c0.c0 (wI 1) fun d => sl0 d a fun g => c X.n g b
def F179_3 : M := fun a b c => lssW a.c0.c0 a.c0.c1 fun d => seqM (F179_0 d) (seqM (blockM 1 (F179_1 cf)) (F179_2)) a b c
def F179_4 (a : V) : M := fun b c d => sl2 a b fun g => lenL a fun i => sl1 i g fun j => sl0 (wI 0) j fun m => blockM 0 (loopM lf (F179_3 cf)) m c d
def T179 (cf : CallF) (lf : Nat) : V → H → KV → Bool := fun l h k => onCons l fun a b => onCons b fun c d => onNil d ((F179_4 cf lf c) (⟨⟨V.u, V.u, V.u, a, V.u, V.u, V.u, V.u⟩, n8 V.u, n8 V.u, n8 V.u, n8 V.u, n8 V.u, n8 V.u, n8 V.u⟩ : L8) h fun x e h => finK (fun e h k => k (V.x .tup V.nil V.nil)) k x e h)
theorem e179 : FnEq Tryz.prog G LF OF 179 T179 := fun cf lf => by kernel_rfl
theorem c179 : chkF Tryz.prog LF OF 179 = true := by kernel_rfl
def F180_0 (a : V) (b : H) (c : V) (d : KX) (g : L8) : Bool := fadV 1 a fun i => ld1 i b fun j => resv 1 b fun m n => part 0 true 1 j (vc (V.s 0 0) V.nil) fun o => bslA m 1 1 9 o n fun p q => cf 181 (vc c (vc p V.nil)) q fun r s => d X.n g s
def F180_1 (a b : V) : M := fun c d g => fadV 1 a fun i => ld1 i d fun j => neqS j (V.s 0 0) fun m => condV m (F180_0 cf a d b g c) (g X.n c d)
def F180_2 (a : L8) (b : V) (c : H) (d : KX) : Bool := ssli 1 none (some a.c0.c2) b fun g => cf 203 (vc a.c0.c0 (vc g (vc (V.s 1 40) (vc (V.s 1 41) V.nil)))) c fun i j => d X.n a j
def F180_3 : M := fun a b c => fadV 4 a.c0.c1 fun d => ld1 d b fun g => F180_2 cf a g b c
def F180_4 (a : H) (b c d : V) (g : L8) (i : KX) : Bool := resv 1 a fun j m => part 0 true 1 b (vc (V.s 0 0) V.nil) fun n => bslA j 1 1 9 n m fun o p => cf 181 (vc c (vc o V.nil)) p fun q r => seqM (F180_1 cf d c) (F180_3 cf) g r i
def F180_5 (a b : V) (c : H) (d g : V) (i : L8) (j : KX) : Bool := maxV a (wI 0) fun m => minV m (wI 1) fun n => iadV 1 b n fun o => ld1 o c fun p => F180_4 cf c p d g i j
def F180_6 (a : H) (b c : V) (d : L8) (g : KX) : Bool := resv 1 a fun i j => part 0 true 1 (V.s 5 521610294641) (vc (V.s 0 0) (vc (V.s 0 0) V.nil)) fun m => part 1 true 1 (V.s 8 7957695015159100781) m fun n => bslA i 2 1 9 n j fun o p => fadV 3 b fun q => ld1 q p fun r => F180_5 cf r o p c b d g
def F180_7 (a : V) (b : H) (c d g : V) (i : L8) (j : KX) : Bool := guardF a b (fun m => m c b) fun n o => guardF a o (fun p => gtrW n (wI 0) fun q => p q o) fun r s => pickV a (V.t true) r fun t => condV t (F180_6 cf s d g i j) (j X.n i s)
def F180_8 (a : V) (b : H) (c d g : V) (i : L8) (j : KX) : Bool := guardF a b (fun m => fadV 1 c fun n => m n b) fun o p => guardF a p (fun q => ld1 o p fun r => q r p) fun s t => guardF a t (fun u => neqS s (V.s 0 0) fun v => u v t) fun w y => pickV a (V.t true) w fun a0 => F180_7 cf a0 y d c g i j
def F180_9 (a b c : V) : M := fun d g i => fadV 3 a fun j => ld1 j g fun m => neqW m (wI 0) fun n => F180_8 cf n g a b c d i
def F180_10 (a : L8) (b : V) (c : H) (d : KX) : Bool := ssli 1 (some a.c0.c2) none b fun g => cf 203 (vc a.c0.c0 (vc g (vc (V.s 1 123) (vc (V.s 1 125) V.nil)))) c fun i j => d X.n a j
def F180_11 : M := fun a b c => fadV 4 a.c0.c1 fun d => ld1 d b fun g => F180_10 cf a g b c
def F180_12 (a : V) (b : H) (c : V) (d : L8) (g : KX) : Bool := fadV 4 a fun i => ld1 i b fun j => cf 202 (vc c (vc j (vc (wI 3) V.nil))) b fun m n => sl2 m d fun o => seqM (F180_9 cf a m c) (F180_11 cf) o n g
def F180_13 (a b : V) : M := fun c d g => resv 1 d fun i j => newA i false 5 109 a j fun m n => sl1 m c fun o => F180_12 cf m n b o g
def T180 (cf : CallF) (lf : Nat) : V → H → KV → Bool := fun l h k => onCons l fun a b => onCons b fun c d => onNil d ((F180_13 cf c a) (⟨⟨a, V.u, V.u, V.u, V.u, V.u, V.u, V.u⟩, n8 V.u, n8 V.u, n8 V.u, n8 V.u, n8 V.u, n8 V.u, n8 V.u⟩ : L8) h fun x e h => finK (fun e h k => k (V.x .tup V.nil V.nil)) k x e h)
theorem e180 : FnEq Tryz.prog G LF OF 180 T180 := fun cf lf => by kernel_rfl
theorem c180 : chkF Tryz.prog LF OF 180 = true := by kernel_rfl
def F181_0 (a b : V) : M := fun c d g => nilckV a fun i => fadV 1 i fun j => ld1 j d fun m => app 1 9 m b d fun n o => nilckV a fun p => fadV 1 p fun q => st true 1 q n o fun r s => g X.n c s
def T181 (cf : CallF) (lf : Nat) : V → H → KV → Bool := fun l h k => onCons l fun a b => onCons b fun c d => onNil d ((F181_0 a c) (⟨n8 V.u, n8 V.u, n8 V.u, n8 V.u, n8 V.u, n8 V.u, n8 V.u, n8 V.u⟩ : L8) h fun x e h => finK (fun e h k => k (V.x .tup V.nil V.nil)) k x e h)
theorem e181 : FnEq Tryz.prog G LF OF 181 T181 := fun cf lf => by kernel_rfl
theorem c181 : chkF Tryz.prog LF OF 181 = true := by kernel_rfl
def F182_0 (a b : V) (c : H) (d : V) (g : KX) (i : L8) : Bool := cf 181 (vc a (vc b V.nil)) c fun j m => fadV 4 d fun n => ld1 n m fun o => cf 179 (vc a (vc o V.nil)) m fun p q => g X.r i q
def F182_1 (a : V) (b : H) (c : V) (d : KX) (g : L8) : Bool := fadV 1 a fun i => ld1 i b fun j => resv 1 b fun m n => part 0 true 1 j (vc (V.s 0 0) (vc (V.s 0 0) V.nil)) fun o => part 1 true 1 (V.s 1 58) o fun p => bslA m 2 1 9 p n fun q r => F182_0 cf c q r a d g
def F182_2 (a b : V) : M := fun c d g => fadV 0 a fun i => ld1 i d fun j => eqlW j (wI 5) fun m => condV m (F182_1 cf a d b g c) (g X.n c d)
def F182_3 (a : H) (b : L8) (c : KX) : Bool := resv 1 a fun d g => part 0 true 1 (V.s 1 64) (vc (V.s 0 0) V.nil) fun i => bslA d 1 1 9 i g fun j m => cf 181 (vc b.c0.c1 (vc j V.nil)) m fun n o => c X.n b o
def F182_4 : M := fun a b c => fadV 0 a.c0.c0 fun d => ld1 d b fun g => eqlW g (wI 6) fun i => condV i (F182_3 cf b a c) (c X.n a b)
def F182_5 (a : L8) (b : H) (c : KX) : Bool := fadV 2 a.c0.c0 fun d => ld1 d b fun g => resv 1 b fun i j => part 0 true 1 g (vc (V.s 0 0) (vc (V.s 0 0) V.nil)) fun m => part 1 true 1 (V.s 1 58) m fun n => bslA i 2 1 9 n j fun o p => cf 181 (vc a.c0.c1 (vc o V.nil)) p fun q r => c X.n a r
def F182_6 : M := fun a b c => fadV 2 a.c0.c0 fun d => ld1 d b fun g => neqS g (V.s 0 0) fun i => condV i (F182_5 cf a b c) (c X.n a b)
def F182_7 (a : L8) (b : H) (c : V) (d : KX) : Bool := fadV 4 a.c0.c0 fun g => ld1 g b fun i => ssli 1 (some c) none i fun j => cf 204 (vc a.c0.c1 (vc j V.nil)) b fun m n => d X.n a n
def F182_8 (a b : V) (c : L8) (d : H) (g : KX) : Bool := ssli 1 none (some a) b fun i => cf 203 (vc c.c0.c1 (vc i (vc (V.s 1 40) (vc (V.s 1 41) V.nil)))) d fun j m => F182_7 cf c m a g
def F182_9 (a : L8) (b : H) (c : KX) : Bool := fadV 4 a.c0.c0 fun d => ld1 d b fun g => cf 202 (vc a.c0.c1 (vc g (vc (wI 5) V.nil))) b fun i j => fadV 4 a.c0.c0 fun m => ld1 m j fun n => F182_8 cf i n a j c
def F182_10 : M := fun a b c => fadV 1 a.c0.c0 fun d => ld1 d b fun g => resv 1 b fun i j => part 0 true 1 g (vc (V.s 0 0) V.nil) fun m => bslA i 1 1 9 m j fun n o => cf 181 (vc a.c0.c1 (vc n V.nil)) o fun p q => F182_9 cf a q c
def F182_11 (a b : V) : M := fun c d g => resv 1 d fun i j => newA i false 5 109 a j fun m n => sl0 m c fun o => seqM (F182_2 cf m b) (seqM (F182_4 cf) (seqM (F182_6 cf) (F182_10 cf))) o n g
def T182 (cf : CallF) (lf : Nat) : V → H → KV → Bool := fun l h k => onCons l fun a b => onCons b fun c d => onNil d ((F182_11 cf c a) (⟨⟨V.u, a, V.u, V.u, V.u, V.u, V.u, V.u⟩, n8 V.u, n8 V.u, n8 V.u, n8 V.u, n8 V.u, n8 V.u, n8 V.u⟩ : L8) h fun x e h => finK (fun e h k => k (V.x .tup V.nil V.nil)) k x e h)
theorem e182 : FnEq Tryz.prog G LF OF 182 T182 := fun cf lf => by kernel_rfl
theorem c182 : chkF Tryz.prog LF OF 182 = true := by kernel_rfl
def F185_0 (a : V) : M := fun b c d => lssW a (wI 0) fun g => condV g (false) (d X.n b c)
def F185_1 (a b : V) (c : L8) (d : H) (g : KX) : Bool := capL a fun i => lenL b fun j => subW i j fun m => lssW m c.c0.c1 fun n => condV n (cf 206 (vc c.c0.c0 (vc c.c0.c1 V.nil)) d fun o p => g X.n c p) (g X.n c d)
def F185_2 : M := fun a b c => resv 0 b fun d g => nilckV a.c0.c0 fun i => fadV 1 i fun j => ld1 j g fun m => nilckV a.c0.c0 fun n => fadV 1 n fun o => ld1 o g fun p => F185_1 cf m p a g c
def F185_3 (a b : V) : M := fun c d g => cf 165 (vc a V.nil) d fun i j => seqM (F185_0 b) (F185_2 cf) c j g
def T185 (cf : CallF) (lf : Nat) : V → H → KV → Bool := fun l h k => onCons l fun a b => onCons b fun c d => onNil d ((F185_3 cf a c) (⟨⟨a, c, V.u, V.u, V.u, V.u, V.u, V.u⟩, n8 V.u, n8 V.u, n8 V.u, n8 V.u, n8 V.u, n8 V.u, n8 V.u⟩ : L8) h fun x e h => finK (fun e h k => k (V.x .tup V.nil V.nil)) k x e h)
theorem e185 : FnEq Tryz.prog G LF OF 185 T185 := fun cf lf => by kernel_rfl
theorem c185 : chkF Tryz.prog LF OF 185 = true := by kernel_rfl
def F186_0 (a b : V) : M := fun c d g => lenL a fun i => lenL b fun j => neqW i j fun m => condV m (sl0 (V.t false) c fun n => g X.r n d) (g X.n c d)
def F186_1 (a : V) : M := fun b c d => condV a (d X.n b c) (d (X.x 0) b c)
def F186_2 (a : L8) (b : H) (c : V) (d : KX) : Bool := iadV 1 a.c0.c4 a.c0.c2 fun g => ld1 g b fun i => neqW c i fun j => condV j (sl0 (V.t false) a fun m => d X.r m b) (d X.n a b)
def F186_3 : M := fun a b c => resv 0 b fun d g => iadV 1 a.c0.c1 a.c0.c2 fun i => ld1 i g fun j => F186_2 a g j c
def F186_4 : M := fun a b c => addW a.c0.c2 (wI 1) fun d => sl2 d a fun g => c X.n g b
def F186_5 : M := fun a b c => lssW a.c0.c2 a.c0.c3 fun d => seqM (F186_1 d) (seqM (blockM 1 (F186_3)) (F186_4)) a b c
def F186_6 : M := fun a b c => lenL a.c0.c1 fun d => sl3 d a fun g => sl2 (wI 0) g fun i => blockM 0 (loopM lf (F186_5)) i b c
def F186_7 : M := fun a b c => sl0 (V.t true) a fun d => c X.r d b
def F186_8 (a b : V) : M := fun c d g => sl0 (V.t false) c fun i => seqM (F186_0 a b) (seqM (F186_6 lf) (F186_7)) i d g
def T186 (cf : CallF) (lf : Nat) : V → H → KV → Bool := fun l h k => onCons l fun a b => onCons b fun c d => onNil d ((F186_8 lf a c) (⟨⟨V.u, a, V.u, V.u, c, V.u, V.u, V.u⟩, n8 V.u, n8 V.u, n8 V.u, n8 V.u, n8 V.u, n8 V.u, n8 V.u⟩ : L8) h fun x e h => finK (fun e h k => k e.c0.c0) k x e h)
theorem e186 : FnEq Tryz.prog G LF OF 186 T186 := fun cf lf => by kernel_rfl
theorem c186 : chkF Tryz.prog LF OF 186 = true := by kernel_rfl
def F198_0 (a : V) : M := fun b c d => eqN nilI nots a (V.x .inil V.nil V.nil) fun g => condV g (sl0 (wI 0) b fun i => sl1 a i fun j => d X.r j c) (d X.n b c)
def F198_1 (a : V) (b : L8) (c : KX) (d : H) : Bool := eqN nilI nots a (V.x .inil V.nil V.nil) fun g => condV g (sl0 (wI 0) b fun i => sl1 a i fun j => c X.r j d) (c X.n b d)
def F198_2 (a : L8) (b : H) (c : KX) : Bool := cf 169 (vc a.c0.c4 V.nil) b fun d g => ext 0 d fun i => ext 1 d fun j => fadV 1 a.c0.c3 fun m => st true 1 m i g fun n o => F198_1 j a c o
def F198_3 : M := fun a b c => cf 168 (vc a.c0.c4 (vc (V.s 1 58) V.nil)) b fun d g => condV d (fadV 2 a.c0.c3 fun i => st true 1 i a.c0.c2 g fun j m => F198_2 cf a m c) (c X.n a g)
def F198_4 (a : V) (b : L8) (c : KX) (d : H) : Bool := eqN nilI nots a (V.x .inil V.nil V.nil) fun g => condV g (sl0 (wI 0) b fun i => sl1 a i fun j => c X.r j d) (c X.n b d)
def F198_5 : M := fun a b c => cf 222 (vc a.c0.c4 V.nil) b fun d g => ext 0 d fun i => ext 1 d fun j => fadV 4 a.c0.c3 fun m => st true 1 m i g fun n o => F198_4 j a c o
def F198_6 (a : L8) (b : H) (c : V) (d : KX) : Bool := lda 5 a.c0.c3 b fun g => cf 84 (vc a.c0.c4 (vc g (vc c V.nil))) b fun i j => ext 0 i fun m => ext 1 i fun n => sl0 m a fun o => sl1 n o fun p => d X.r p j
def F198_7 (a : L8) (b : H) (c d : V) (g : KX) : Bool := fadV 4 a.c0.c3 fun i => ld1 i b fun j => app 1 3 j c b fun m n => fadV 4 a.c0.c3 fun o => st true 1 o m n fun p q => F198_6 cf a q d g
def F198_8 : M := fun a b c => cf 200 (vc a.c0.c4 (vc (V.t false) V.nil)) b fun d g => ext 0 d fun i => ext 1 d fun j => F198_7 cf a g i j c
def F198_9 : M := fun a b c => fadV 1 a.c0.c3 fun d => st true 1 d a.c0.c2 b fun g i => seqM (F198_3 cf) (seqM (F198_5 cf) (F198_8 cf)) a i c
def F198_10 (a : V) (b : H) (c : L8) (d : KX) : Bool := cf 169 (vc a V.nil) b fun g i => ext 0 g fun j => ext 1 g fun m => sl2 j c fun n => seqM (F198_0 m) (F198_9 cf) n i d
def F198_11 (a : H) (b : L8) (c : V) (d : KX) : Bool := part 0 true 1 (wI 4) (vc (wI 0) (vc (V.s 0 0) (vc (V.s 0 0) (vc (wI 0) (vc (V.x .slnil V.nil V.nil) V.nil))))) fun g => resv 1 a fun i j => newA i false 5 109 (V.x .agg (vc (wI 0) (vc (V.s 0 0) (vc (V.s 0 0) (vc (wI 0) (vc (V.x .slnil V.nil V.nil) V.nil))))) V.nil) j fun m n => sl3 m b fun o => st false 5 m (V.x .agg g V.nil) n fun p q => F198_10 cf c q o d
def F198_12 (a : V) : M := fun b c d => sl0 (wI 0) b fun g => sl1 (V.x .inil V.nil V.nil) g fun i => F198_11 cf c i a d
def T198 (cf : CallF) (lf : Nat) : V → H → KV → Bool := fun l h k => onCons l fun a b => onNil b ((F198_12 cf a) (⟨⟨V.u, V.u, V.u, V.u, a, V.u, V.u, V.u⟩, n8 V.u, n8 V.u, n8 V.u, n8 V.u, n8 V.u, n8 V.u, n8 V.u⟩ : L8) h fun x e h => finK (fun e h k => k (V.x .tup (vc e.c0.c0 (vc e.c0.c1 V.nil)) V.nil)) k x e h)
theorem e198 : FnEq Tryz.prog G LF OF 198 T198 := fun cf lf => by kernel_rfl
theorem c198 : chkF Tryz.prog LF OF 198 = true := by kernel_rfl
def F199_0 : M := fun a b c => cf 168 (vc a.c0.c2 (vc (V.s 1 64) V.nil)) b fun d g => condV d (c X.n a g) (c (X.x 0) a g)
def F199_1 (a : V) : M := fun b c d => eqN nilI nots a (V.x .inil V.nil V.nil) fun g => condV g (sl0 (V.x .slnil V.nil V.nil) b fun i => sl1 a i fun j => d X.r j c) (d X.n b c)
def F199_2 (a : V) (b : H) (c : L8) (d : KX) : Bool := cf 83 (vc (V.s 9 1871653630383947409764) (vc a V.nil)) b fun g i => sl0 (V.x .slnil V.nil V.nil) c fun j => sl1 g j fun m => d X.r m i
def F199_3 (a : V) : M := fun b c d => eqN nilI nots a (V.x .inil V.nil V.nil) fun g => condV g (F199_2 cf a c b d) (d X.n b c)
def F199_4 : M := fun a b c => resv 1 b fun d g => part 0 true 1 a.c0.c4 (vc (wI 0) V.nil) fun i => bslA d 1 1 3 i g fun j m => app 1 3 a.c0.c0 j m fun n o => sl0 n a fun p => c X.n p o
def F199_5 (a : L8) (b c : V) (d : H) (g : KX) : Bool := cf 84 (vc a.c0.c2 (vc (V.x .agg b V.nil) (vc c V.nil))) d fun i j => ext 0 i fun m => ext 1 i fun n => sl4 m a fun o => seqM (F199_3 cf n) (F199_4) o j g
def F199_6 (a : L8) (b c : V) (d : H) (g : KX) : Bool := part 0 true 1 (wI 6) (vc (wI 0) (vc (V.s 0 0) (vc (V.s 0 0) (vc (wI 0) (vc (V.x .slnil V.nil V.nil) V.nil))))) fun i => part 1 true 1 a.c0.c3 i fun j => part 4 true 1 b j fun m => F199_5 cf a m c d g
def F199_7 : M := fun a b c => cf 222 (vc a.c0.c2 V.nil) b fun d g => ext 0 d fun i => ext 1 d fun j => F199_6 cf a i j g c
def F199_8 : M := fun a b c => cf 169 (vc a.c0.c2 V.nil) b fun d g => ext 0 d fun i => ext 1 d fun j => sl3 i a fun m => seqM (F199_1 j) (F199_7 cf) m g c
def F199_9 : M := fun a b c => sl0 a.c0.c0 a fun d => sl1 (V.x .inil V.nil V.nil) d fun g => c X.r g b
def F199_10 : M := fun a b c => sl0 (V.x .slnil V.nil V.nil) a fun d => sl1 (V.x .inil V.nil V.nil) d fun g => seqM (blockM 0 (loopM lf (seqM (F199_0 cf) (blockM 1 (F199_8 cf))))) (F199_9) g b c
def T199 (cf : CallF) (lf : Nat) : V → H → KV → Bool := fun l h k => onCons l fun a b => onNil b ((F199_10 cf lf) (⟨⟨V.u, V.u, a, V.u, V.u, V.u, V.u, V.u⟩, n8 V.u, n8 V.u, n8 V.u, n8 V.u, n8 V.u, n8 V.u, n8 V.u⟩ : L8) h fun x e h => finK (fun e h k => k (V.x .tup (vc e.c0.c0 (vc e.c0.c1 V.nil)) V.nil)) k x e h)
theorem e199 : FnEq Tryz.prog G LF OF 199 T199 := fun cf lf => by kernel_rfl
theorem c199 : chkF Tryz.prog LF OF 199 = true := by kernel_rfl
def F200_0 (a : V) (b : H) (c d g : V) (i : L8) (j : V) (m : KX) : Bool := guardT a b (fun n => neqS c (V.s 1 123) fun o => n o b) fun p q => guardF d q (fun r => pickV a p (V.t false) fun s => r s q) fun t u => pickV d (V.t true) t fun v => condV v (sl0 g i fun w => sl1 j w fun y => m X.r y u) (m X.n i u)
def F200_1 (a : V) (b : H) (c d g : V) (i : L8) (j : V) (m : KX) : Bool := guardF a b (fun n => notV c fun o => n o b) fun p q => guardF a q (fun r => r p q) fun s t => guardT s t (fun u => u d t) fun v w => guardT s w (fun y => cf 141 (vc v V.nil) w fun a0 b0 => y a0 b0) fun c0 d0 => F200_0 s d0 c0 a g i j m
def F200_2 (a b c d : V) : M := fun g i j => eqN nilI nots a (V.x .inil V.nil V.nil) fun m => guardF m i (fun n => n b i) fun o p => F200_1 cf m p o c d g a j
def F200_3 : M := fun a b c => cf 144 (vc a.c0.c2 V.nil) b fun d g => ext 0 d fun i => ext 1 d fun j => app 1 3 a.c0.c3 i g fun m n => sl0 m a fun o => sl1 j o fun p => c X.r p n
def F200_4 (a b : V) : M := fun c d g => sl0 (V.x .slnil V.nil V.nil) c fun i => sl1 (V.x .inil V.nil V.nil) i fun j => cf 199 (vc a V.nil) d fun m n => ext 0 m fun o => ext 1 m fun p => sl3 o j fun q => seqM (F200_2 cf p b a o) (F200_3 cf) q n g
def T200 (cf : CallF) (lf : Nat) : V → H → KV → Bool := fun l h k => onCons l fun a b => onCons b fun c d => onNil d ((F200_4 cf a c) (⟨⟨V.u, V.u, a, V.u, V.u, V.u, V.u, V.u⟩, n8 V.u, n8 V.u, n8 V.u, n8 V.u, n8 V.u, n8 V.u, n8 V.u⟩ : L8) h fun x e h => finK (fun e h k => k (V.x .tup (vc e.c0.c0 (vc e.c0.c1 V.nil)) V.nil)) k x e h)
theorem e200 : FnEq Tryz.prog G LF OF 200 T200 := fun cf lf => by kernel_rfl
theorem c200 : chkF Tryz.prog LF OF 200 = true := by kernel_rfl
def F201_0 (a : V) : M := fun b c d => nilckV a fun g => fadV 6 g fun i => ld1 i c fun j => neqW j (wI 0) fun m => condV m (sl0 (wI 0) b fun n => d X.r n c) (d X.n b c)
def F201_1 : M := fun a b c => lda 5 a.c0.c2 b fun d => cf 50 (vc a.c0.c1 (vc d V.nil)) b fun g i => sl0 g a fun j => c X.r j i
def F201_2 (a : V) (b : H) (c : V) (d : L8) (g : KX) : Bool := cf 89 (vc a V.nil) b fun i j => part 0 true 1 (wI 14) (vc (wI 0) (vc (V.s 0 0) (vc (V.s 0 0) (vc (wI 0) (vc (V.x .slnil V.nil V.nil) V.nil))))) fun m => part 1 true 1 i m fun n => st false 5 c (V.x .agg n V.nil) j fun o p => seqM (F201_0 a) (F201_1 cf) d p g
def F201_3 (a : V) (b : H) (c : V) (d : L8) (g : KX) : Bool := nilckV a fun i => fadV 2 i fun j => ld1 j b fun m => addW m (wI 1) fun n => nilckV a fun o => fadV 2 o fun p => st true 1 p n b fun q r => F201_2 cf a r c d g
def F201_4 (a b : V) (c : H) (d : KX) (g : L8) : Bool := part 0 true 1 (wI 10) (vc (wI 0) (vc (V.s 0 0) (vc (V.s 0 0) (vc (wI 0) (vc (V.x .slnil V.nil V.nil) V.nil))))) fun i => part 3 true 1 a i fun j => st false 5 b (V.x .agg j V.nil) c fun m n => d X.n g n
def F201_5 (a b : V) (c : H) (d : KX) (g : L8) : Bool := part 0 true 1 (wI 11) (vc (wI 0) (vc (V.s 0 0) (vc (V.s 0 0) (vc (wI 0) (vc (V.x .slnil V.nil V.nil) V.nil))))) fun i => part 1 true 1 a i fun j => st false 5 b (V.x .agg j V.nil) c fun m n => d X.n g n
def F201_6 (a : V) (b : H) (c : KX) (d : L8) : Bool := part 0 true 1 (wI 12) (vc (wI 0) (vc (V.s 0 0) (vc (V.s 0 0) (vc (wI 0) (vc (V.x .slnil V.nil V.nil) V.nil))))) fun g => part 3 true 1 (wI 1) g fun i => st false 5 a (V.x .agg i V.nil) b fun j m => c X.n d m
def F201_7 (a : V) (b : H) (c : KX) (d : L8) : Bool := part 0 true 1 (wI 12) (vc (wI 0) (vc (V.s 0 0) (vc (V.s 0 0) (vc (wI 0) (vc (V.x .slnil V.nil V.nil) V.nil))))) fun g => st false 5 a (V.x .agg g V.nil) b fun i j => c X.n d j
def F201_8 (a : V) (b : H) (c : KX) (d : L8) : Bool := part 0 true 1 (wI 13) (vc (wI 0) (vc (V.s 0 0) (vc (V.s 0 0) (vc (wI 0) (vc (V.x .slnil V.nil V.nil) V.nil))))) fun g => st false 5 a (V.x .agg g V.nil) b fun i j => c X.n d j
def F201_9 (a : V) (b : H) (c : L8) (d : KX) : Bool := cf 88 (vc a V.nil) b fun g i => cf 87 (vc a (vc (wI 4) (vc g V.nil))) i fun j m => sl0 (wI 0) c fun n => d X.r n m
def F201_10 (a b : V) (c : H) (d : KX) (g : L8) (i : V) : Bool := eqlS a (V.s 5 435728179558) fun j => condV j (F201_7 b c d g) (eqlS a (V.s 4 1819047278) fun m => condV m (F201_8 b c d g) (F201_9 cf i c g d))
def F201_11 (a b c : V) (d : H) (g : KX) (i : L8) (j m : V) : Bool := condV a (F201_5 b c d g i) (eqlS j (V.s 4 1702195828) fun n => condV n (F201_6 c d g i) (F201_10 cf j c d g i m))
def F201_12 (a b : V) (c : H) (d : V) (g : L8) (i : KX) (j m n o : V) : Bool := eqlS a (V.s 1 36) fun p => condV p (F201_3 cf b c d g i) (condV j (F201_4 m d c i g) (F201_11 cf n o d c i g a b))
def F201_13 (a : V) (b : L8) (c : KX) (d : H) (g i j m n o p : V) : Bool := neqW a (wI 0) fun q => condV q (sl0 (wI 0) b fun r => c X.r r d) (F201_12 cf g i d j b c m n o p)
def F201_14 (a b c d g i j : V) : M := fun m n o => nilckV a fun p => fadV 6 p fun q => ld1 q n fun r => F201_13 cf r m o n b a c d g i j
def F201_15 (a : V) (b : L8) (c : H) (d : KX) : Bool := addW a (wI 1) fun g => nilckV b.c0.c1 fun i => fadV 2 i fun j => st true 1 j g c fun m n => lda 5 b.c0.c2 n fun o => cf 50 (vc b.c0.c1 (vc o V.nil)) n fun p q => sl0 p b fun r => d X.r r q
def F201_16 : M := fun a b c => nilckV a.c0.c1 fun d => fadV 2 d fun g => ld1 g b fun i => F201_15 cf i a b c
def F201_17 (a : V) (b : H) (c d g i : V) (j : L8) (m : KX) : Bool := cf 224 (vc a V.nil) b fun n o => ext 0 n fun p => ext 1 n fun q => seqM (blockM 0 (F201_14 cf c a d g i q p)) (F201_16 cf) j o m
def F201_18 (a : H) (b : L8) (c d : V) (g : KX) : Bool := resv 1 a fun i j => newA i false 5 109 (V.x .agg (vc (wI 0) (vc (V.s 0 0) (vc (V.s 0 0) (vc (wI 0) (vc (V.x .slnil V.nil V.nil) V.nil))))) V.nil) j fun m n => sl2 m b fun o => st false 5 m (V.x .agg (vc (wI 0) (vc (V.s 0 0) (vc (V.s 0 0) (vc (wI 0) (vc (V.x .slnil V.nil V.nil) V.nil))))) V.nil) n fun p q => cf 223 (vc c V.nil) q fun r s => ext 0 r fun t => ext 1 r fun u => F201_17 cf c s d m u t o g
def F201_19 (a : V) : M := fun b c d => sl0 (wI 0) b fun g => cf 86 (vc a V.nil) c fun i j => F201_18 cf j g i a d
def T201 (cf : CallF) (lf : Nat) : V → H → KV → Bool := fun l h k => onCons l fun a b => onNil b ((F201_19 cf a) (⟨⟨V.u, a, V.u, V.u, V.u, V.u, V.u, V.u⟩, n8 V.u, n8 V.u, n8 V.u, n8 V.u, n8 V.u, n8 V.u, n8 V.u⟩ : L8) h fun x e h => finK (fun e h k => k e.c0.c0) k x e h)
theorem e201 : FnEq Tryz.prog G LF OF 201 T201 := fun cf lf => by kernel_rfl
theorem c201 : chkF Tryz.prog LF OF 201 = true := by kernel_rfl
def F202_0 (a : V) (b : H) (c : L8) (d : V) (g : KX) : Bool := guardT a b (fun i => i c.c0.c4 b) fun j m => guardT a m (fun n => eqlW d j fun o => n o m) fun p q => pickV a p (V.t false) fun r => condV r (g X.n c q) (g (X.x 0) c q)
def F202_1 (a : V) (b : H) (c d : V) (g : L8) (i : KX) : Bool := guardT a b (fun j => ld1 c b fun m => j m b) fun n o => guardT a o (fun p => iadV 5 d n fun q => p q o) fun r s => guardT a s (fun t => fadV 0 r fun u => t u s) fun v w => guardT a w (fun y => ld1 v w fun a0 => y a0 w) fun b0 c0 => F202_0 a c0 g b0 i
def F202_2 (a : V) (b : H) (c : V) (d : L8) (g : KX) : Bool := guardT a b (fun i => ld1 c b fun j => i j b) fun m n => guardT a n (fun o => o d.c0.c2 n) fun p q => guardT a q (fun r => r d.c0.c1 q) fun s t => guardT a t (fun u => iadV 1 p s fun v => u v t) fun w y => F202_1 a y w m d g
def F202_3 (a : V) (b : H) (c : L8) (d : KX) : Bool := guardT a b (fun g => g c.c0.c3 b) fun i j => guardT a j (fun m => nilckV i fun n => m n j) fun o p => guardT a p (fun q => fadV 0 o fun r => q r p) fun s t => F202_2 a t s c d
def F202_4 : M := fun a b c => resv 0 b fun d g => lenL a.c0.c2 fun i => lssW a.c0.c1 i fun j => F202_3 j g a c
def F202_5 : M := fun a b c => addW a.c0.c1 (wI 1) fun d => sl1 d a fun g => c X.n g b
def F202_6 : M := fun a b c => sl0 a.c0.c1 a fun d => c X.r d b
def F202_7 : M := fun a b c => sl0 (wI 0) a fun d => sl1 (wI 0) d fun g => seqM (blockM 0 (loopM lf (seqM (F202_4) (blockM 1 (F202_5))))) (F202_6) g b c
def T202 (cf : CallF) (lf : Nat) : V → H → KV → Bool := fun l h k => onCons l fun a b => onCons b fun c d => onCons d fun g i => onNil i ((F202_7 lf) (⟨⟨V.u, V.u, c, a, g, V.u, V.u, V.u⟩, n8 V.u, n8 V.u, n8 V.u, n8 V.u, n8 V.u, n8 V.u, n8 V.u⟩ : L8) h fun x e h => finK (fun e h k => k e.c0.c0) k x e h)
theorem e202 : FnEq Tryz.prog G LF OF 202 T202 := fun cf lf => by kernel_rfl
theorem c202 : chkF Tryz.prog LF OF 202 = true := by kernel_rfl
def F203_0 (a : H) (b c : V) (d : KX) (g : L8) : Bool := resv 1 a fun i j => part 0 true 1 b (vc (V.s 0 0) V.nil) fun m => bslA i 1 1 9 m j fun n o => cf 181 (vc c (vc n V.nil)) o fun p q => d X.n g q
def F203_1 (a : H) (b c d g : V) (i : KX) (j : L8) : Bool := resv 1 a fun m n => part 0 true 1 b (vc (V.s 0 0) V.nil) fun o => bslA m 1 1 9 o n fun p q => cf 181 (vc c (vc p V.nil)) q fun r s => cf 179 (vc c (vc d V.nil)) s fun t u => F203_0 cf u g c i j
def F203_2 (a b c d : V) : M := fun g i j => lenL a fun m => gtrW m (wI 0) fun n => condV n (F203_1 cf i b c a d j g) (j X.n g i)
def T203 (cf : CallF) (lf : Nat) : V → H → KV → Bool := fun l h k => onCons l fun a b => onCons b fun c d => onCons d fun g i => onCons i fun j m => onNil m ((F203_2 cf c g a j) (⟨n8 V.u, n8 V.u, n8 V.u, n8 V.u, n8 V.u, n8 V.u, n8 V.u, n8 V.u⟩ : L8) h fun x e h => finK (fun e h k => k (V.x .tup V.nil V.nil)) k x e h)
theorem e203 : FnEq Tryz.prog G LF OF 203 T203 := fun cf lf => by kernel_rfl
theorem c203 : chkF Tryz.prog LF OF 203 = true := by kernel_rfl
def F204_0 (a b : V) (c : H) (d g : V) (i : KX) (j : L8) : Bool := cf 179 (vc a (vc b V.nil)) c fun m n => ssli 1 (some d) none g fun o => cf 203 (vc a (vc o (vc (V.s 1 123) (vc (V.s 1 125) V.nil)))) n fun p q => i X.n j q
def F204_1 (a b : V) : M := fun c d g => cf 202 (vc a (vc b (vc (wI 6) V.nil))) d fun i j => ssli 1 none (some i) b fun m => F204_0 cf a m j i b g c
def T204 (cf : CallF) (lf : Nat) : V → H → KV → Bool := fun l h k => onCons l fun a b => onCons b fun c d => onNil d ((F204_1 cf a c) (⟨n8 V.u, n8 V.u, n8 V.u, n8 V.u, n8 V.u, n8 V.u, n8 V.u, n8 V.u⟩ : L8) h fun x e h => finK (fun e h k => k (V.x .tup V.nil V.nil)) k x e h)
theorem e204 : FnEq Tryz.prog G LF OF 204 T204 := fun cf lf => by kernel_rfl
theorem c204 : chkF Tryz.prog LF OF 204 = true := by kernel_rfl
def F206_0 (a : V) (b : H) (c : V) (d : KX) (g : L8) : Bool := nilckV a fun i => fadV 1 i fun j => ld1 j b fun m => copL c m fun n => nilckV a fun o => fadV 1 o fun p => st true 1 p c b fun q r => d X.n g r
def F206_1 (a b : V) (c : H) (d g : V) (i : KX) (j : L8) : Bool := lenL a fun m => cf 225 (vc b V.nil) c fun n o => ld1 d o fun p => both (eqV p a) (ssli 1 none (some m) n fun q => F206_0 g o q i j)
def F206_2 (a : V) (b : H) (c d : V) (g : KX) (i : L8) : Bool := nilckV a fun j => fadV 1 j fun m => ld1 m b fun n => capL c fun o => mulV (wI 2) o fun p => addW p d fun q => F206_1 cf n q b m a g i
def F206_3 (a b : V) : M := fun c d g => resv 0 d fun i j => nilckV a fun m => fadV 1 m fun n => ld1 n j fun o => F206_2 cf a j o b g c
def T206 (cf : CallF) (lf : Nat) : V → H → KV → Bool := fun l h k => onCons l fun a b => onCons b fun c d => onNil d ((F206_3 cf a c) (⟨n8 V.u, n8 V.u, n8 V.u, n8 V.u, n8 V.u, n8 V.u, n8 V.u, n8 V.u⟩ : L8) h fun x e h => finK (fun e h k => k (V.x .tup V.nil V.nil)) k x e h)
theorem e206 : FnEq Tryz.prog G LF OF 206 T206 := fun cf lf => by kernel_rfl
theorem c206 : chkF Tryz.prog LF OF 206 = true := by kernel_rfl
def F222_0 (a : V) : M := fun b c d => cf 168 (vc a (vc (V.s 1 40) V.nil)) c fun g i => notV g fun j => condV j (sl0 (V.x .slnil V.nil V.nil) b fun m => sl1 (V.x .inil V.nil V.nil) m fun n => d X.r n i) (d X.n b i)
def F222_1 (a : V) (b : H) (c : L8) (d : KX) : Bool := ext 0 a fun g => ext 1 a fun i => cf 83 (vc (V.s 9 2129765323153231802977) (vc i V.nil)) b fun j m => sl0 g c fun n => sl1 j n fun o => d X.r o m
def F222_2 : M := fun a b c => cf 170 (vc a.c0.c2 (vc (V.s 1 41) (vc (V.x (.func 233) (vc a.c0.c2 V.nil) V.nil) V.nil))) b fun d g => F222_1 cf d g a c
def F222_3 (a : V) : M := fun b c d => sl0 (V.x .slnil V.nil V.nil) b fun g => sl1 (V.x .inil V.nil V.nil) g fun i => seqM (F222_0 cf a) (F222_2 cf) i c d
def T222 (cf : CallF) (lf : Nat) : V → H → KV → Bool := fun l h k => onCons l fun a b => onNil b ((F222_3 cf a) (⟨⟨V.u, V.u, a, V.u, V.u, V.u, V.u, V.u⟩, n8 V.u, n8 V.u, n8 V.u, n8 V.u, n8 V.u, n8 V.u, n8 V.u⟩ : L8) h fun x e h => finK (fun e h k => k (V.x .tup (vc e.c0.c0 (vc e.c0.c1 V.nil)) V.nil)) k x e h)
theorem e222 : FnEq Tryz.prog G LF OF 222 T222 := fun cf lf => by kernel_rfl
theorem c222 : chkF Tryz.prog LF OF 222 = true := by kernel_rfl
def F223_0 (a : V) (b : H) (c d : V) (g : L8) (i : KX) : Bool := guardF a b (fun j => pickV c d (V.t false) fun m => j m b) fun n o => pickV a (V.t true) n fun p => condV p (sl0 (wI 0) g fun q => sl1 (V.t false) q fun r => i X.r r o) (i X.n g o)
def F223_1 (a : V) (b : H) (c d : V) (g : L8) (i : KX) : Bool := guardT a b (fun j => j c b) fun m n => guardT a n (fun o => sidxV m (wI 0) fun p => o p n) fun q r => guardT a r (fun s => cf 145 (vc q V.nil) r fun t u => s t u) fun v w => guardT a w (fun y => notV v fun a0 => y a0 w) fun b0 c0 => F223_0 d c0 a b0 g i
def F223_2 (a : V) (b : H) (c : V) (d : L8) (g : KX) : Bool := guardF a b (fun i => i c b) fun j m => guardF a m (fun n => sidxV j (wI 0) fun o => n o m) fun p q => guardF a q (fun r => neqY p (V.y 45) fun s => r s q) fun t u => guardF a u (fun v => v t u) fun w y => F223_1 cf w y c a d g
def F223_3 (a : V) : M := fun b c d => cf 119 (vc a V.nil) c fun g i => notV g fun j => F223_2 cf j i a b d
def F223_4 : M := fun a b c => cf 116 (vc a.c0.c2 V.nil) b fun d g => ext 0 d fun i => ext 1 d fun j => sl0 i a fun m => sl1 j m fun n => c X.r n g
def F223_5 (a : V) : M := fun b c d => sl0 (wI 0) b fun g => sl1 (V.t false) g fun i => seqM (F223_3 cf a) (F223_4 cf) i c d
def T223 (cf : CallF) (lf : Nat) : V → H → KV → Bool := fun l h k => onCons l fun a b => onNil b ((F223_5 cf a) (⟨⟨V.u, V.u, a, V.u, V.u, V.u, V.u, V.u⟩, n8 V.u, n8 V.u, n8 V.u, n8 V.u, n8 V.u, n8 V.u, n8 V.u⟩ : L8) h fun x e h => finK (fun e h k => k (V.x .tup (vc e.c0.c0 (vc e.c0.c1 V.nil)) V.nil)) k x e h)
theorem e223 : FnEq Tryz.prog G LF OF 223 T223 := fun cf lf => by kernel_rfl
theorem c223 : chkF Tryz.prog LF OF 223 = true := by kernel_rfl
def F224_0 (a : V) (b : H) (c : V) (d : L8) (g : KX) : Bool := guardF a b (fun i => i c b) fun j m => guardF a m (fun n => sidxV j (wI 0) fun o => n o m) fun p q => guardF a q (fun r => neqY p (V.y 34) fun s => r s q) fun t u => pickV a (V.t true) t fun v => condV v (sl0 (V.s 0 0) d fun w => sl1 (V.t false) w fun y => g X.r y u) (g X.n d u)
def F224_1 (a : V) : M := fun b c d => cf 119 (vc a V.nil) c fun g i => notV g fun j => F224_0 j i a b d
def F224_2 : M := fun a b c => cf 146 (vc a.c0.c2 V.nil) b fun d g => ext 0 d fun i => ext 1 d fun j => sl0 j a fun m => sl1 (V.t true) m fun n => c X.r n g
def F224_3 (a : V) : M := fun b c d => sl0 (V.s 0 0) b fun g => sl1 (V.t false) g fun i => seqM (F224_1 cf a) (F224_2 cf) i c d
def T224 (cf : CallF) (lf : Nat) : V → H → KV → Bool := fun l h k => onCons l fun a b => onNil b ((F224_3 cf a) (⟨⟨V.u, V.u, a, V.u, V.u, V.u, V.u, V.u⟩, n8 V.u, n8 V.u, n8 V.u, n8 V.u, n8 V.u, n8 V.u, n8 V.u⟩ : L8) h fun x e h => finK (fun e h k => k (V.x .tup (vc e.c0.c0 (vc e.c0.c1 V.nil)) V.nil)) k x e h)
theorem e224 : FnEq Tryz.prog G LF OF 224 T224 := fun cf lf => by kernel_rfl
theorem c224 : chkF Tryz.prog LF OF 224 = true := by kernel_rfl
def F233_0 (a : V) : M := fun b c d => eqN nilI nots a (V.x .inil V.nil V.nil) fun g => condV g (sl0 (wI 0) b fun i => sl1 a i fun j => d X.r j c) (d X.n b c)
def F233_1 (a : V) (b : L8) (c : KX) (d : H) : Bool := eqN nilI nots a (V.x .inil V.nil V.nil) fun g => condV g (sl0 (wI 0) b fun i => sl1 a i fun j => c X.r j d) (c X.n b d)
def F233_2 : M := fun a b c => cf 173 (vc a.c0.c2 (vc (V.s 1 58) V.nil)) b fun d g => F233_1 d a c g
def F233_3 (a : L8) (b c : V) (d : H) (g : KX) : Bool := part 0 true 1 (wI 5) (vc (wI 0) (vc (V.s 0 0) (vc (V.s 0 0) (vc (wI 0) (vc (V.x .slnil V.nil V.nil) V.nil))))) fun i => part 1 true 1 a.c0.c3 i fun j => part 4 true 1 b j fun m => cf 84 (vc a.c0.c2 (vc (V.x .agg m V.nil) (vc c V.nil))) d fun n o => ext 0 n fun p => ext 1 n fun q => sl0 p a fun r => sl1 q r fun s => g X.r s o
def F233_4 (a : H) (b : V) (c : L8) (d : V) (g : KX) : Bool := resv 1 a fun i j => part 0 true 1 b (vc (wI 0) V.nil) fun m => bslA i 1 1 3 m j fun n o => F233_3 cf c n d o g
def F233_5 : M := fun a b c => cf 235 (vc a.c0.c2 V.nil) b fun d g => ext 0 d fun i => ext 1 d fun j => F233_4 cf g i a j c
def F233_6 (a : V) (b : H) (c : L8) (d : KX) : Bool := cf 169 (vc a V.nil) b fun g i => ext 0 g fun j => ext 1 g fun m => sl3 j c fun n => seqM (F233_0 m) (seqM (F233_2 cf) (F233_5 cf)) n i d
def F233_7 (a : V) : M := fun b c d => sl0 (wI 0) b fun g => sl1 (V.x .inil V.nil V.nil) g fun i => F233_6 cf a c i d
def T233 (cf : CallF) (lf : Nat) : V → H → KV → Bool := fun l h k => onCons l fun a b => onNil b ((F233_7 cf a) (⟨⟨V.u, V.u, a, V.u, V.u, V.u, V.u, V.u⟩, n8 V.u, n8 V.u, n8 V.u, n8 V.u, n8 V.u, n8 V.u, n8 V.u⟩ : L8) h fun x e h => finK (fun e h k => k (V.x .tup (vc e.c0.c0 (vc e.c0.c1 V.nil)) V.nil)) k x e h)
theorem e233 : FnEq Tryz.prog G LF OF 233 T233 := fun cf lf => by kernel_rfl
theorem c233 : chkF Tryz.prog LF OF 233 = true := by kernel_rfl
def F235_0 (a : V) : M := fun b c d => eqlS a (V.s 1 36) fun g => condV g (d (X.x 1) b c) (d X.n b c)
def F235_1 : M := fun a b c => cf 236 (vc a.c0.c2 V.nil) b fun d g => condV d (c (X.x 2) a g) (c X.n a g)
def F235_2 : M := fun a b c => cf 238 (vc a.c0.c2 V.nil) b fun d g => condV d (c (X.x 3) a g) (c X.n a g)
def F235_3 : M := fun a b c => eqlS a.c0.c2 (V.s 4 1819047278) fun d => condV d (c (X.x 4) a b) (c X.n a b)
def F235_4 : M := fun a b c => eqlS a.c0.c2 (V.s 4 1702195828) fun d => condV d (c (X.x 5) a b) (c X.n a b)
def F235_5 : M := fun a b c => eqlS a.c0.c2 (V.s 5 435728179558) fun d => condV d (c (X.x 6) a b) (c X.n a b)
def F235_6 (a : L8) (b c : V) (d : H) (g : KX) : Bool := cf 84 (vc a.c0.c3 (vc (V.x .agg b V.nil) (vc c V.nil))) d fun i j => ext 0 i fun m => ext 1 i fun n => sl0 m a fun o => sl1 n o fun p => g X.r p j
def F235_7 (a : V) (b : L8) (c : V) (d : H) (g : KX) : Bool := part 0 true 1 (wI 14) (vc (wI 0) (vc (V.s 0 0) (vc (V.s 0 0) (vc (wI 0) (vc (V.x .slnil V.nil V.nil) V.nil))))) fun i => part 1 true 1 a i fun j => F235_6 cf b j c d g
def F235_8 (a : V) (b : L8) (c : H) (d : KX) : Bool := addW a (wI 1) fun g => nilckV b.c0.c3 fun i => fadV 1 i fun j => st true 1 j g c fun m n => cf 169 (vc b.c0.c3 V.nil) n fun o p => ext 0 o fun q => ext 1 o fun r => F235_7 cf q b r p d
def F235_9 : M := fun a b c => nilckV a.c0.c3 fun d => fadV 1 d fun g => ld1 g b fun i => F235_8 cf i a b c
def F235_10 : M := fun a b c => cf 237 (vc a.c0.c2 V.nil) b fun d g => ext 0 d fun i => ext 1 d fun j => fadV 3 a.c0.c4 fun m => st true 1 m i g fun n o => c (X.x 0) a o
def F235_11 (a : L8) (b : H) (c : KX) : Bool := cf 239 (vc a.c0.c2 V.nil) b fun d g => ext 0 d fun i => ext 1 d fun j => fadV 1 a.c0.c4 fun m => st true 1 m i g fun n o => c X.n a o
def F235_12 : M := fun a b c => fadV 0 a.c0.c4 fun d => st true 1 d (wI 11) b fun g i => F235_11 cf a i c
def F235_13 : M := fun a b c => fadV 0 a.c0.c4 fun d => st true 1 d (wI 13) b fun g i => c (X.x 0) a i
def F235_14 : M := fun a b c => fadV 3 a.c0.c4 fun d => st true 1 d (wI 1) b fun g i => c X.n a i
def F235_15 : M := fun a b c => fadV 0 a.c0.c4 fun d => st true 1 d (wI 12) b fun g i => c (X.x 0) a i
def F235_16 : M := fun a b c => cf 172 (vc a.c0.c3 V.nil) b fun d g => sl0 (wI 0) a fun i => sl1 d i fun j => c X.r j g
def F235_17 : M := fun a b c => c (X.x 0) a b
def F235_18 (a : V) (b : L8) (c : H) (d : KX) : Bool := blockM 0 (seqM (blockM 7 (seqM (blockM 6 (seqM (blockM 5 (seqM (blockM 4 (seqM (blockM 3 (seqM (blockM 2 (seqM (blockM 1 (seqM (seqM (F235_0 a) (seqM (F235_1 cf) (seqM (F235_2 cf) (seqM (F235_3) (seqM (F235_4) (F235_5)))))) (fun g i j => j (X.x 7) g i))) (seqM (F235_9 cf) (fun m n o => o (X.x 0) m n)))) (F235_10 cf))) (seqM (F235_12 cf) (fun p q r => r (X.x 0) p q)))) (F235_13))) (F235_14))) (F235_15))) (seqM (F235_16 cf) (F235_17))) b c d
def F235_19 (a : V) : M := fun b c d => cf 141 (vc a V.nil) c fun g i => sl2 g b fun j => F235_18 cf g j i d
def F235_20 (a : L8) (b : H) (c : KX) : Bool := lda 5 a.c0.c4 b fun d => cf 84 (vc a.c0.c3 (vc d (vc (V.x .inil V.nil V.nil) V.nil))) b fun g i => ext 0 g fun j => ext 1 g fun m => sl0 j a fun n => sl1 m n fun o => c X.r o i
def F235_21 (a : V) (b : L8) (c : H) (d : KX) : Bool := addW a (wI 1) fun g => nilckV b.c0.c3 fun i => fadV 1 i fun j => st true 1 j g c fun m n => F235_20 cf b n d
def F235_22 : M := fun a b c => nilckV a.c0.c3 fun d => fadV 1 d fun g => ld1 g b fun i => F235_21 cf i a b c
def F235_23 (a : H) (b : L8) (c : V) (d : KX) : Bool := part 0 true 1 (wI 10) (vc (wI 0) (vc (V.s 0 0) (vc (V.s 0 0) (vc (wI 0) (vc (V.x .slnil V.nil V.nil) V.nil))))) fun g => resv 1 a fun i j => newA i false 5 109 (V.x .agg (vc (wI 0) (vc (V.s 0 0) (vc (V.s 0 0) (vc (wI 0) (vc (V.x .slnil V.nil V.nil) V.nil))))) V.nil) j fun m n => sl4 m b fun o => st false 5 m (V.x .agg g V.nil) n fun p q => seqM (F235_19 cf c) (F235_22 cf) o q d
def F235_24 (a : V) : M := fun b c d => sl0 (wI 0) b fun g => sl1 (V.x .inil V.nil V.nil) g fun i => F235_23 cf c i a d
def T235 (cf : CallF) (lf : Nat) : V → H → KV → Bool := fun l h k => onCons l fun a b => onNil b ((F235_24 cf a) (⟨⟨V.u, V.u, V.u, a, V.u, V.u, V.u, V.u⟩, n8 V.u, n8 V.u, n8 V.u, n8 V.u, n8 V.u, n8 V.u, n8 V.u⟩ : L8) h fun x e h => finK (fun e h k => k (V.x .tup (vc e.c0.c0 (vc e.c0.c1 V.nil)) V.nil)) k x e h)
theorem e235 : FnEq Tryz.prog G LF OF 235 T235 := fun cf lf => by kernel_rfl
theorem c235 : chkF Tryz.prog LF OF 235 = true := by kernel_rfl
def F236_0 (a : V) (b : H) (c d : V) (g : L8) (i : KX) : Bool := guardF a b (fun j => sidxV c (wI 0) fun m => j m b) fun n o => guardF a o (fun p => cf 134 (vc n V.nil) o fun q r => p q r) fun s t => guardT d t (fun u => pickV a (V.t true) s fun v => u v t) fun w y => pickV d w (V.t false) fun a0 => sl0 a0 g fun b0 => i X.r b0 y
def F236_1 (a : V) (b : H) (c d : V) (g : L8) (i : KX) : Bool := guardT a b (fun j => sidxV c (wI 0) fun m => j m b) fun n o => guardT a o (fun p => eqlY n (V.y 45) fun q => p q o) fun r s => guardT a s (fun t => t r s) fun u v => guardF u v (fun w => w d v) fun y a0 => F236_0 cf u a0 y a g i
def F236_2 (a : V) : M := fun b c d => sl0 (V.t false) b fun g => cf 157 (vc a V.nil) c fun i j => guardT i j (fun m => m a j) fun n o => F236_1 cf i o n a g d
def T236 (cf : CallF) (lf : Nat) : V → H → KV → Bool := fun l h k => onCons l fun a b => onNil b ((F236_2 cf a) (⟨n8 V.u, n8 V.u, n8 V.u, n8 V.u, n8 V.u, n8 V.u, n8 V.u, n8 V.u⟩ : L8) h fun x e h => finK (fun e h k => k e.c0.c0) k x e h)
theorem e236 : FnEq Tryz.prog G LF OF 236 T236 := fun cf lf => by kernel_rfl
theorem c236 : chkF Tryz.prog LF OF 236 = true := by kernel_rfl
def F237_0 (a : V) : M := fun b c d => cf 236 (vc a V.nil) c fun g i => notV g fun j => condV j (sl0 (wI 0) b fun m => sl1 (wI 1) m fun n => d X.r n i) (d X.n b i)
def F237_1 : M := fun a b c => cf 135 (vc a.c0.c2 V.nil) b fun d g => ext 0 d fun i => ext 1 d fun j => ext 2 d fun m => sl0 i a fun n => sl1 (wI 0) n fun o => c X.r o g
def F237_2 (a : V) : M := fun b c d => sl0 (wI 0) b fun g => sl1 (wI 0) g fun i => seqM (F237_0 cf a) (F237_1 cf) i c d
def T237 (cf : CallF) (lf : Nat) : V → H → KV → Bool := fun l h k => onCons l fun a b => onNil b ((F237_2 cf a) (⟨⟨V.u, V.u, a, V.u, V.u, V.u, V.u, V.u⟩, n8 V.u, n8 V.u, n8 V.u, n8 V.u, n8 V.u, n8 V.u, n8 V.u⟩ : L8) h fun x e h => finK (fun e h k => k (V.x .tup (vc e.c0.c0 (vc e.c0.c1 V.nil)) V.nil)) k x e h)
theorem e237 : FnEq Tryz.prog G LF OF 237 T237 := fun cf lf => by kernel_rfl
theorem c237 : chkF Tryz.prog LF OF 237 = true := by kernel_rfl
def F238_0 (a : V) (b : H) (c : V) (d : L8) (g : KX) : Bool := guardT a b (fun i => sidxV c (wI 0) fun j => i j b) fun m n => guardT a n (fun o => eqlY m (V.y 34) fun p => o p n) fun q r => pickV a q (V.t false) fun s => sl0 s d fun t => g X.r t r
def F238_1 (a : V) : M := fun b c d => sl0 (V.t false) b fun g => cf 157 (vc a V.nil) c fun i j => guardT i j (fun m => m a j) fun n o => F238_0 i o n g d
def T238 (cf : CallF) (lf : Nat) : V → H → KV → Bool := fun l h k => onCons l fun a b => onNil b ((F238_1 cf a) (⟨n8 V.u, n8 V.u, n8 V.u, n8 V.u, n8 V.u, n8 V.u, n8 V.u, n8 V.u⟩ : L8) h fun x e h => finK (fun e h k => k e.c0.c0) k x e h)
theorem e238 : FnEq Tryz.prog G LF OF 238 T238 := fun cf lf => by kernel_rfl
theorem c238 : chkF Tryz.prog LF OF 238 = true := by kernel_rfl
def F239_0 (a : V) : M := fun b c d => cf 238 (vc a V.nil) c fun g i => notV g fun j => condV j (sl0 (V.s 0 0) b fun m => sl1 (wI 1) m fun n => d X.r n i) (d X.n b i)
def F239_1 : M := fun a b c => cf 136 (vc a.c0.c2 V.nil) b fun d g => ext 0 d fun i => ext 1 d fun j => ext 2 d fun m => sl0 i a fun n => sl1 (wI 0) n fun o => c X.r o g
def F239_2 (a : V) : M := fun b c d => sl0 (V.s 0 0) b fun g => sl1 (wI 0) g fun i => seqM (F239_0 cf a) (F239_1 cf) i c d
def T239 (cf : CallF) (lf : Nat) : V → H → KV → Bool := fun l h k => onCons l fun a b => onNil b ((F239_2 cf a) (⟨⟨V.u, V.u, a, V.u, V.u, V.u, V.u, V.u⟩, n8 V.u, n8 V.u, n8 V.u, n8 V.u, n8 V.u, n8 V.u, n8 V.u⟩ : L8) h fun x e h => finK (fun e h k => k (V.x .tup (vc e.c0.c0 (vc e.c0.c1 V.nil)) V.nil)) k x e h)
theorem e239 : FnEq Tryz.prog G LF OF 239 T239 := fun cf lf => by kernel_rfl
theorem c239 : chkF Tryz.prog LF OF 239 = true := by kernel_rfl
end
end Go.Bvm.YtbabneakocnnoaaGreatDoorTE
