/- The abstract machine: its operations do what the model's do. Conditions: stated in each theorem. -/
import Derived.Test.YtacpnpdggbfkgaaDoorBvm1
import Derived.Laws.Sem
import Derived.Laws.World
import Derived.Laws.Strings
import Derived.Laws.Concat
import Derived.Laws.Cells
import Derived.Laws.IdiomCopy
import Derived.Laws.MakeOwn
import Derived.Laws.Append
import Derived.Laws.BytesString
import Derived.Laws.Slices
import Derived.Lib.ConvBytes
set_option linter.unusedVariables false
set_option linter.unusedSimpArgs false
set_option linter.unusedVariables false
namespace Go.Bvm
theorem RV.inv_w {φ:Phi} {n:Nat} {c:Value} (h:RV φ (.w n) c):n<18446744073709551616∧c=.int .i64 ((n:Int)-9223372036854775808):=by cases h with | w a=>exact ⟨a,rfl⟩
theorem RV.inv_y {φ:Phi} {n:Nat} {c:Value} (h:RV φ (.y n) c):n<256∧c=.int .u8 (n:Int):=by cases h with | y a=>exact ⟨a,rfl⟩
theorem RV.inv_t {φ:Phi} {b:Bool} {c:Value} (h:RV φ (.t b) c):c=.bool b:=by cases h;rfl
theorem RV.inv_s {φ:Phi} {l n:Nat} {c:Value} (h:RV φ (.s l n) c):∃ s:ByteArray,c=.string s∧s.size=l∧pack s.data.toList=n:=by cases h with | s a b=>exact ⟨_,rfl,a,b⟩
theorem RV.inv_int {φ:Phi} {k:IntKind} {n:Int} {a b:V} {c:Value} (h:RV φ (.x (.int k n) a b) c):k≠.i64∧k≠.u8∧c=.int k n:=by cases h with | int a b=>exact ⟨a,b,rfl⟩
theorem RV.inv_p {φ:Phi} {id off lim ver:Nat} {c:Value} (h:RV φ (.p id off lim ver) c):∃ l,φ id ver=some l∧lim≤l.sz∧c=.pointer (some ⟨l.B,l.base+off,none⟩):=by cases h with | p a b=>exact ⟨_,a,b,rfl⟩
theorem RV.inv_sl {φ:Phi} {id off len ver esz:Nat} {c:Value} (h:RV φ (.sl id off len ver esz) c):∃ l a cap,φ id ver=some l∧off+len*esz≤l.sz∧len≤cap∧(cap≠0→a=⟨l.B,l.base+off,none⟩)∧l.base+off+cap*esz≤l.bsz∧c=.slice (some a) len cap:=by
 cases h with | sl a b c d e=>exact ⟨_,_,_,a,b,c,d,e,rfl⟩
theorem RV.inv_slnil {φ:Phi} {a b:V} {c:Value} (h:RV φ (.x .slnil a b) c):c=.slice none 0 0:=by cases h;rfl
theorem RV.mkI {φ:Phi} {k:IntKind} {n:Int} (h:k≠.i64) (h':k≠.u8):RV φ (mkI k n) (.int k n):=.int h h'
theorem wrap_i64 (z:Int) (n:Nat) (h:(n:Int)=(z+9223372036854775808) % 18446744073709551616):IntKind.wrap .i64 z=(n:Int)-9223372036854775808:=by
 rw [show IntKind.wrap .i64 z=if (decide (z % 18446744073709551616≥9223372036854775808))=true then z % 18446744073709551616-18446744073709551616 else z % 18446744073709551616 from rfl]
 split <;> rename_i h1 <;> simp only [decide_eq_true_eq] at h1 <;> omega
theorem wrap_u8 (z:Int) (n:Nat) (h:(n:Int)=z % 256):IntKind.wrap .u8 z=(n:Int):=by
 rw [show IntKind.wrap .u8 z=z % 256 from rfl]
 omega
theorem RV.mk_w {φ:Phi} (z:Int) (n:Nat) (h:(n:Int)=(z+9223372036854775808) % 18446744073709551616):RV φ (.w n) (.int .i64 (IntKind.wrap .i64 z)):=by
 rw [wrap_i64 z n h];exact .w (by omega)
theorem RV.mk_y {φ:Phi} (z:Int) (n:Nat) (h:(n:Int)=z % 256):RV φ (.y n) (.int .u8 (IntKind.wrap .u8 z)):=by
 rw [wrap_u8 z n h];exact .y (by omega)
theorem both_true {b k:Bool} (h:both b k=true):b=true∧k=true:=by cases b <;> simp_all [both]
theorem isW_true {v:V} (h:isW v=true):v=.w (wOf v):=by cases v <;> first | rfl | exact Bool.noConfusion (show false=true from h)
theorem isY_true {v:V} (h:isY v=true):v=.y (yOf v):=by cases v <;> first | rfl | exact Bool.noConfusion (show false=true from h)
theorem isS_true {v:V} (h:isS v=true):v=.s (sL v) (sN v):=by cases v <;> first | rfl | exact Bool.noConfusion (show false=true from h)
theorem vtgInt_true {v:V} (h:vtgInt v=true):v=.x (.int (xK v) (xN v)) (xA v) (xB v):=by
 cases v <;> first | exact Bool.noConfusion (show false=true from h) | skip
 rename_i g a b
 cases g <;> first | rfl | exact Bool.noConfusion (show false=true from h)
theorem vtagOS_true {v:V} (h:vtagOS v=true):v=.x .osl (xA v) (xB v):=by
 cases v <;> first | exact Bool.noConfusion (show false=true from h) | skip
 rename_i g a b
 cases g <;> first | rfl | exact Bool.noConfusion (show false=true from h)
theorem vtagNN_true {v:V} (h:vtagNN v=true):v=.x .nn (xA v) (xB v):=by
 cases v <;> first | exact Bool.noConfusion (show false=true from h) | skip
 rename_i g a b
 cases g <;> first | rfl | exact Bool.noConfusion (show false=true from h)
theorem bs_cases {b x y:Bool} (h:bs b x y=true):b=true∧x=true∨b=false∧y=true:=by cases b <;> simp_all
theorem arith_true {fw fy:Nat→Nat→(V→Bool)→Bool} {fz:IntKind→Int→Int→(V→Bool)→Bool} {x y:V} {k:V→Bool} (h:arith fw fy fz x y k=true) :
  (∃ n m,x=.w n∧y=.w m∧fw n m k=true)∨(∃ n m,x=.y n∧y=.y m∧fy n m k=true)∨
  (∃ q n m a b a' b',x=.x (.int q n) a b∧y=.x (.int q m) a' b'∧fz q n m k=true):=by
 rcases bs_cases h with ⟨h1,h2⟩ | ⟨_,h2⟩
 ·obtain ⟨h3,h4⟩:=both_true h2
  exact .inl ⟨_,_,isW_true h1,isW_true h3,h4⟩
 ·rcases bs_cases h2 with ⟨h3,h4⟩ | ⟨_,h4⟩
  ·obtain ⟨h5,h6⟩:=both_true h4
   exact .inr (.inl ⟨_,_,isY_true h3,isY_true h5,h6⟩)
  ·obtain ⟨h5,h6⟩:=both_true h4
   obtain ⟨h7,h8⟩:=both_true h6
   obtain ⟨h9,h10⟩:=both_true h8
   have h9:xK x=xK y:=by simpa using h9
   have hy:=vtgInt_true h7
   rw [← h9] at hy
   exact .inr (.inr ⟨_,_,_,_,_,_,_,vtgInt_true h5,hy,h10⟩)
theorem onW_true {v:V} {k:Nat→Bool} (h:onW v k=true):∃ n,v=.w n∧k n=true:=by
 cases v <;> first | exact Bool.noConfusion (show false=true from h) | skip
 exact ⟨_,rfl,h⟩
theorem onY_true {v:V} {k:Nat→Bool} (h:onY v k=true):∃ n,v=.y n∧k n=true:=by
 cases v <;> first | exact Bool.noConfusion (show false=true from h) | skip
 exact ⟨_,rfl,h⟩
theorem onT_true {v:V} {k:Bool→Bool} (h:onT v k=true):∃ n,v=.t n∧k n=true:=by
 cases v <;> first | exact Bool.noConfusion (show false=true from h) | skip
 exact ⟨_,rfl,h⟩
theorem onS_true {v:V} {k:Nat→Nat→Bool} (h:onS v k=true):∃ l n,v=.s l n∧k l n=true:=by
 cases v <;> first | exact Bool.noConfusion (show false=true from h) | skip
 exact ⟨_,_,rfl,h⟩
theorem onP_true {v:V} {k:Nat→Nat→Nat→Nat→Bool} (h:onP v k=true):∃ a b c d,v=.p a b c d∧k a b c d=true:=by
 cases v <;> first | exact Bool.noConfusion (show false=true from h) | skip
 exact ⟨_,_,_,_,rfl,h⟩
theorem onAgg_true {v:V} {k:V→Bool} (h:onAgg v k=true):∃ l b,v=.x .agg l b∧k l=true:=by
 cases v <;> first | exact Bool.noConfusion (show false=true from h) | skip
 rename_i g a b
 cases g <;> first | exact Bool.noConfusion (show false=true from h) | skip
 exact ⟨_,_,rfl,h⟩
theorem onTup_true {v:V} {k:V→Bool} (h:onTup v k=true):∃ l b,v=.x .tup l b∧k l=true:=by
 cases v <;> first | exact Bool.noConfusion (show false=true from h) | skip
 rename_i g a b
 cases g <;> first | exact Bool.noConfusion (show false=true from h) | skip
 exact ⟨_,_,rfl,h⟩
theorem onFn_true {v:V} {k:Nat→V→V→Bool} (h:onFn v k=true):∃ f a b,v=.x (.func f) a b∧k f a b=true:=by
 cases v <;> first | exact Bool.noConfusion (show false=true from h) | skip
 rename_i g a b
 cases g <;> first | exact Bool.noConfusion (show false=true from h) | skip
 exact ⟨_,_,_,rfl,h⟩
theorem onI_true {v:V} {k:IntKind→Int→Bool} (h:onI v k=true):∃ q n a b,v=.x (.int q n) a b∧k q n=true:=by
 cases v <;> first | exact Bool.noConfusion (show false=true from h) | skip
 rename_i g a b
 cases g <;> first | exact Bool.noConfusion (show false=true from h) | skip
 exact ⟨_,_,_,_,rfl,h⟩
theorem onSl_true {v:V} {kn:Bool} {k:Nat→Nat→Nat→Nat→Nat→Bool} (h:onSl v kn k=true) :
  (∃ a b,v=.x .slnil a b∧kn=true)∨(∃ a b c d e,v=.sl a b c d e∧k a b c d e=true):=by
 cases v <;> first | exact Bool.noConfusion (show false=true from h) | skip
 ·exact .inr ⟨_,_,_,_,_,rfl,h⟩
 ·rename_i g a b
  cases g <;> first | exact Bool.noConfusion (show false=true from h) | skip
  exact .inl ⟨_,_,rfl,h⟩
theorem onBk_true {b:Blk} {k:Arr→Nat→Nat→Nat→Nat→Bool→Bool→Bool} (h:onBk b k=true):∃ c s v f e x o,b=.bk c s v f e x o∧k c s v f e x o=true:=by
 cases b <;> first | exact ⟨_,_,_,_,_,_,_,rfl,h⟩ | exact Bool.noConfusion (show false=true from h)
theorem ble_true {a b:Nat} (h:Nat.ble a b=true):a≤b:=Nat.le_of_ble_eq_true h
theorem beq_true {a b:Nat} (h:Nat.beq a b=true):a=b:=Nat.eq_of_beq_eq_true h
def Fun2 (P:Program) (f:V→V→(V→Bool)→Bool) (g:Value→Value→Sem Value):Prop:=
 ∀ φ x y k,f x y k=true→∀ c d,RV φ x c→RV φ y d→∀ w,∃ v r,(g c d).run P w=.ok r w∧RV φ v r∧k v=true
def Fun1 (P:Program) (f:V→(V→Bool)→Bool) (g:Value→Sem Value):Prop:=
 ∀ φ x k,f x k=true→∀ c,RV φ x c→∀ w,∃ v r,(g c).run P w=.ok r w∧RV φ v r∧k v=true
variable (P:Program)
theorem intOp_run (op:BinOp) (t:TypeId) (q:IntKind) (n m:Int) (h1:op≠.shl) (h2:op≠.shr):Go.binOp op t (.int q n) (.int q m)=match op with
  | .add | .sub | .mul=>Op.intArith op q n m
  | .quo | .rem=>Op.intDiv op q n m
  | .and | .or | .xor | .andNot=>Op.intBits op q n m
  | _=>Op.intCmp op n m:=by
 unfold Go.binOp
 cases op <;> simp at h1 h2 ⊢
theorem add_fun (t:TypeId):Fun2 P addV (Go.binOp .add t):=by
 intro φ x y k h c d hc hd w
 rcases arith_true h with ⟨n,m,rfl,rfl,hk⟩ | ⟨n,m,rfl,rfl,hk⟩ | ⟨q,n,m,_,_,_,_,rfl,rfl,hk⟩ <;> clear h
 ·obtain ⟨hn,rfl⟩:=hc.inv_w;obtain ⟨hm,rfl⟩:=hd.inv_w
  exact ⟨_,_,rfl,RV.mk_w _ _ (by unfold two64 bias;omega),hk⟩
 ·obtain ⟨hn,rfl⟩:=hc.inv_y;obtain ⟨hm,rfl⟩:=hd.inv_y
  exact ⟨_,_,rfl,RV.mk_y _ _ (by omega),hk⟩
 ·obtain ⟨h1,h2,rfl⟩:=hc.inv_int;obtain ⟨_,_,rfl⟩:=hd.inv_int
  exact ⟨_,_,by rw [intOp_run _ _ _ _ _ (by simp) (by simp)];rfl,RV.mkI h1 h2,hk⟩
theorem sub_fun (t:TypeId):Fun2 P subV (Go.binOp .sub t):=by
 intro φ x y k h c d hc hd w
 rcases arith_true h with ⟨n,m,rfl,rfl,hk⟩ | ⟨n,m,rfl,rfl,hk⟩ | ⟨q,n,m,_,_,_,_,rfl,rfl,hk⟩ <;> clear h
 ·obtain ⟨hn,rfl⟩:=hc.inv_w;obtain ⟨hm,rfl⟩:=hd.inv_w
  exact ⟨_,_,rfl,RV.mk_w _ _ (by unfold two64 bias;omega),hk⟩
 ·obtain ⟨hn,rfl⟩:=hc.inv_y;obtain ⟨hm,rfl⟩:=hd.inv_y
  exact ⟨_,_,rfl,RV.mk_y _ _ (by omega),hk⟩
 ·obtain ⟨h1,h2,rfl⟩:=hc.inv_int;obtain ⟨_,_,rfl⟩:=hd.inv_int
  exact ⟨_,_,by rw [intOp_run _ _ _ _ _ (by simp) (by simp)];rfl,RV.mkI h1 h2,hk⟩
theorem mul_aux (n m:Nat):((((n+bias)*(m+bias)+bias) % two64:Nat):Int)=(((n:Int)-9223372036854775808)*((m:Int)-9223372036854775808)+9223372036854775808) % 18446744073709551616:=by
 unfold two64 bias
 generalize ha:(n:Int)-9223372036854775808=a
 generalize hb:(m:Int)-9223372036854775808=b
 have e1:((n+9223372036854775808:Nat):Int)=a+18446744073709551616:=by omega
 have e2:((m+9223372036854775808:Nat):Int)=b+18446744073709551616:=by omega
 have e:(((n+9223372036854775808)*(m+9223372036854775808)+9223372036854775808:Nat):Int)=(a*b+9223372036854775808)+18446744073709551616*(a+b+18446744073709551616):=by
  rw [Int.natCast_add,Int.natCast_mul,e1,e2,Int.add_mul,Int.mul_add,Int.mul_add,Int.mul_add,Int.mul_comm a 18446744073709551616]
  omega
 rw [Int.natCast_emod,e]
 omega
theorem onIx_true {φ:Phi} {v:V} {c:Value} {k:Nat→Bool} (h:onIx v k=true) (hc:RV φ v c):∃ (q:IntKind) (n:Nat),c=.int q (n:Int)∧k n=true:=by
 unfold onIx at h
 rcases bs_cases h with ⟨h1,h2⟩ | ⟨_,h2⟩
 ·rw [isW_true h1] at h2 hc
  obtain ⟨h3,h4⟩:=both_true (show both (Nat.ble bias (wOf v)) (k (Nat.sub (wOf v) bias))=true from h2)
  have h3:=ble_true h3
  obtain ⟨hn,rfl⟩:=hc.inv_w
  have e:(wOf v:Int)-9223372036854775808=((Nat.sub (wOf v) bias:Nat):Int):=by
   show _=((wOf v-bias:Nat):Int)
   unfold bias at h3 ⊢
   omega
  exact ⟨.i64,Nat.sub (wOf v) bias,by rw [e],h4⟩
 ·rcases bs_cases h2 with ⟨h1,h3⟩ | ⟨_,h3⟩
  ·rw [isY_true h1] at h3 hc
   obtain ⟨hn,rfl⟩:=hc.inv_y
   exact ⟨_,_,rfl,h3⟩
  ·obtain ⟨q,n,a,b,rfl,h4⟩:=onI_true h3
   obtain ⟨h5,h6⟩:=both_true h4
   obtain ⟨_,_,rfl⟩:=hc.inv_int
   have h5:0≤n:=of_decide_eq_true h5
   exact ⟨_,n.toNat,by rw [Int.toNat_of_nonneg h5],h6⟩
theorem shr_fun (t:TypeId):Fun2 P shrV (Go.binOp .shr t):=by
 intro φ x y k h c d hc hd w
 obtain ⟨yk,b,rfl,h2⟩:=onIx_true h hd
 rcases bs_cases h2 with ⟨h1,h2⟩ | ⟨_,h2⟩
 ·rw [isW_true h1] at h2 hc
  obtain ⟨h3,h4⟩:=both_true h2
  have h3:=ble_true h3
  obtain ⟨h5,h6⟩:=both_true (show both (Nat.ble bias (wOf x)) (k (.w (Nat.add (Nat.div (Nat.sub (wOf x) bias) (Nat.pow 2 b)) bias)))=true from h4)
  have h5:=ble_true h5
  obtain ⟨hn,rfl⟩:=hc.inv_w
  refine ⟨_,.int .i64 ((((wOf x-bias) / 2 ^ b:Nat):Int)),?_,?_,h6⟩
  ·rw [binOp_shr,shift_shr .i64 yk _ _ (by omega) (by show (b:Int)≤64;omega)]
   show Result.ok _ w=_
   congr 2
   rw [Int.natCast_ediv,Int.natCast_pow]
   congr 1
   unfold bias at h5 ⊢
   omega
  ·have hle:(wOf x-bias) / 2 ^ b≤wOf x-bias:=Nat.div_le_self _ _
   have:=RV.w (φ:=φ) (n:=(wOf x-bias) / 2 ^ b+bias) (by unfold bias at hle ⊢;omega)
   rw [show (((wOf x-bias) / 2 ^ b+bias:Nat):Int)-9223372036854775808=(((wOf x-bias) / 2 ^ b:Nat):Int) from by unfold bias;omega] at this
   exact this
 ·rcases bs_cases h2 with ⟨h1,h2⟩ | ⟨_,h2⟩
  ·rw [isY_true h1] at h2 hc
   obtain ⟨h3,h4⟩:=both_true h2
   have h3:=ble_true h3
   obtain ⟨hn,rfl⟩:=hc.inv_y
   refine ⟨_,.int .u8 (((yOf x / 2 ^ b:Nat):Int)),?_,?_,h4⟩
   ·rw [binOp_shr,shift_shr .u8 yk _ _ (by omega) (by show (b:Int)≤8;omega)]
    show Result.ok _ w=_
    congr 2
   ·have hle:yOf x / 2 ^ b≤yOf x:=Nat.div_le_self _ _
    exact .y (by show yOf x / 2 ^ b<256;omega)
  ·obtain ⟨q,n,a,a',rfl,h4⟩:=onI_true h2
   obtain ⟨h5,h6⟩:=both_true h4
   obtain ⟨e1,e2,rfl⟩:=hc.inv_int
   have h5:=ble_true h5
   exact ⟨_,_,by rw [binOp_shr,shift_shr q yk _ _ (by omega) (by omega)];rfl,RV.mkI e1 e2,h6⟩
theorem mul_fun (t:TypeId):Fun2 P mulV (Go.binOp .mul t):=by
 intro φ x y k h c d hc hd w
 rcases arith_true h with ⟨n,m,rfl,rfl,hk⟩ | ⟨n,m,rfl,rfl,hk⟩ | ⟨q,n,m,_,_,_,_,rfl,rfl,hk⟩ <;> clear h
 ·obtain ⟨hn,rfl⟩:=hc.inv_w;obtain ⟨hm,rfl⟩:=hd.inv_w
  exact ⟨_,_,rfl,RV.mk_w _ _ (mul_aux n m),hk⟩
 ·obtain ⟨hn,rfl⟩:=hc.inv_y;obtain ⟨hm,rfl⟩:=hd.inv_y
  exact ⟨_,_,rfl,RV.mk_y _ _ (by rw [Int.natCast_emod,Int.natCast_mul];rfl),hk⟩
 ·obtain ⟨h1,h2,rfl⟩:=hc.inv_int;obtain ⟨_,_,rfl⟩:=hd.inv_int
  exact ⟨_,_,by rw [intOp_run _ _ _ _ _ (by simp) (by simp)];rfl,RV.mkI h1 h2,hk⟩
theorem quo_fun (t:TypeId):Fun2 P quoV (Go.binOp .quo t):=by
 intro φ x y k h c d hc hd w
 rcases arith_true h with ⟨n,m,rfl,rfl,hk⟩ | ⟨n,m,rfl,rfl,hk⟩ | ⟨q,n,m,_,_,_,_,rfl,rfl,hk⟩ <;> clear h
 ·obtain ⟨hn,rfl⟩:=hc.inv_w;obtain ⟨hm,rfl⟩:=hd.inv_w
  obtain ⟨h1,hk⟩:=both_true hk;obtain ⟨h2,hk⟩:=both_true hk
  have h1:=ble_true h1;have h2:=ble_true h2
  unfold bias at h1 h2
  have e:((n:Int)-9223372036854775808).tdiv ((m:Int)-9223372036854775808)=(((n-9223372036854775808) / (m-9223372036854775808):Nat):Int):=by
   rw [show (n:Int)-9223372036854775808=((n-9223372036854775808:Nat):Int) from by omega,show (m:Int)-9223372036854775808=((m-9223372036854775808:Nat):Int) from by omega]
   exact (Int.ofNat_tdiv _ _).symm
  have hle:(n-9223372036854775808) / (m-9223372036854775808)≤n-9223372036854775808:=Nat.div_le_self _ _
  refine ⟨_,.int .i64 (IntKind.wrap .i64 (((n:Int)-9223372036854775808).tdiv ((m:Int)-9223372036854775808))),?_,RV.mk_w _ _ ?_,hk⟩
  ·rw [intOp_run _ _ _ _ _ (by simp) (by simp)]
   simp only [Op.intDiv]
   rw [if_neg (by omega)];rfl
  ·rw [e];unfold bias
   generalize (n-9223372036854775808) / (m-9223372036854775808)=d at hle ⊢
   omega
 ·obtain ⟨hn,rfl⟩:=hc.inv_y;obtain ⟨hm,rfl⟩:=hd.inv_y
  obtain ⟨h1,hk⟩:=both_true hk
  have h1:=ble_true h1
  have hle:n / m≤n:=Nat.div_le_self _ _
  refine ⟨_,.int .u8 (IntKind.wrap .u8 ((n:Int).tdiv (m:Int))),?_,RV.mk_y _ _ ?_,hk⟩
  ·rw [intOp_run _ _ _ _ _ (by simp) (by simp)]
   simp only [Op.intDiv]
   rw [if_neg (by omega)];rfl
  ·rw [← Int.ofNat_tdiv]
   generalize n / m=d at hle ⊢
   omega
 ·obtain ⟨h1,h2,rfl⟩:=hc.inv_int;obtain ⟨_,_,rfl⟩:=hd.inv_int
  by_cases e:m=0
  ·simp [e] at hk
  ·simp [e] at hk
   refine ⟨_,.int q (q.wrap (n.tdiv m)),?_,RV.mkI h1 h2,hk⟩
   rw [intOp_run _ _ _ _ _ (by simp) (by simp)]
   simp only [Op.intDiv]
   rw [if_neg e];rfl
theorem rem_fun (t:TypeId):Fun2 P remV (Go.binOp .rem t):=by
 intro φ x y k h c d hc hd w
 rcases arith_true h with ⟨n,m,rfl,rfl,hk⟩ | ⟨n,m,rfl,rfl,hk⟩ | ⟨q,n,m,_,_,_,_,rfl,rfl,hk⟩ <;> clear h
 ·obtain ⟨hn,rfl⟩:=hc.inv_w;obtain ⟨hm,rfl⟩:=hd.inv_w
  obtain ⟨h1,hk⟩:=both_true hk;obtain ⟨h2,hk⟩:=both_true hk
  have h1:=ble_true h1;have h2:=ble_true h2
  unfold bias at h1 h2
  have e:((n:Int)-9223372036854775808).tmod ((m:Int)-9223372036854775808)=(((n-9223372036854775808) % (m-9223372036854775808):Nat):Int):=by
   rw [show (n:Int)-9223372036854775808=((n-9223372036854775808:Nat):Int) from by omega,show (m:Int)-9223372036854775808=((m-9223372036854775808:Nat):Int) from by omega]
   exact (Int.ofNat_tmod _ _).symm
  have hle:(n-9223372036854775808) % (m-9223372036854775808)≤n-9223372036854775808:=Nat.mod_le _ _
  refine ⟨_,.int .i64 (((n:Int)-9223372036854775808).tmod ((m:Int)-9223372036854775808)),?_,?_,hk⟩
  ·rw [intOp_run _ _ _ _ _ (by simp) (by simp)]
   simp only [Op.intDiv]
   rw [if_neg (by omega)];rfl
  ·rw [e]
   have:=RV.w (φ:=φ) (n:=(n-bias) % (m-bias)+bias) (by unfold bias;omega)
   unfold bias at this ⊢
   rw [show (((n-9223372036854775808) % (m-9223372036854775808)+9223372036854775808:Nat):Int)-9223372036854775808=(((n-9223372036854775808) % (m-9223372036854775808):Nat):Int) from by omega] at this
   exact this
 ·obtain ⟨hn,rfl⟩:=hc.inv_y;obtain ⟨hm,rfl⟩:=hd.inv_y
  obtain ⟨h1,hk⟩:=both_true hk
  have h1:=ble_true h1
  have hle:n % m≤n:=Nat.mod_le _ _
  refine ⟨_,.int .u8 ((n:Int).tmod (m:Int)),?_,?_,hk⟩
  ·rw [intOp_run _ _ _ _ _ (by simp) (by simp)]
   simp only [Op.intDiv]
   rw [if_neg (by omega)];rfl
  ·rw [← Int.ofNat_tmod];exact .y (by omega)
 ·obtain ⟨h1,h2,rfl⟩:=hc.inv_int;obtain ⟨_,_,rfl⟩:=hd.inv_int
  by_cases e:m=0
  ·simp [e] at hk
  ·simp [e] at hk
   refine ⟨_,.int q (n.tmod m),?_,RV.mkI h1 h2,hk⟩
   rw [intOp_run _ _ _ _ _ (by simp) (by simp)]
   simp only [Op.intDiv]
   rw [if_neg e];rfl
end Go.Bvm
set_option linter.unusedVariables false
namespace Go.Bvm
theorem pack_drop:∀ (l:List UInt8) (i:Nat),pack (l.drop i)=pack l / 256 ^ i
 | l,0=>by simp
 | [],i+1=>by simp [pack]
 | b::r,i+1=>by
  have hb:b.toNat<256:=b.toNat_lt
  simp only [List.drop_succ_cons,pack]
  rw [pack_drop r i,Nat.pow_succ,Nat.mul_comm (256 ^ i) 256,← Nat.div_div_eq_div_mul]
  have h2:(b.toNat+256*pack r) / 256=pack r:=by omega
  rw [h2]
theorem pack_take:∀ (l:List UInt8) (i:Nat),pack (l.take i)=pack l % 256 ^ i
 | l,0=>by simp [pack,Nat.mod_one]
 | [],i+1=>by simp [pack]
 | b::r,i+1=>by
  have hb:b.toNat<256:=b.toNat_lt
  simp only [List.take_succ_cons,pack]
  rw [pack_take r i,Nat.pow_succ,Nat.mul_comm (256 ^ i) 256,Nat.mod_mul]
  have h1:(b.toNat+256*pack r) % 256=b.toNat:=by omega
  have h2:(b.toNat+256*pack r) / 256=pack r:=by omega
  rw [h1,h2]
theorem pack_append:∀ (l m:List UInt8),pack (l++m)=pack l+256 ^ l.length*pack m
 | [],m=>by simp [pack]
 | b::r,m=>by
  simp only [List.cons_append,pack,List.length_cons]
  rw [pack_append r m,Nat.pow_succ,Nat.mul_add,← Nat.mul_assoc,Nat.mul_comm 256 (256 ^ r.length)]
  omega
theorem pack_inj:∀ (l m:List UInt8),l.length=m.length→pack l=pack m→l=m
 | [],[],_,_=>rfl
 | [],_::_,h,_=>by simp at h
 | _::_,[],h,_=>by simp at h
 | a::l,b::m,h,e=>by
  have ha:a.toNat<256:=a.toNat_lt
  have hb:b.toNat<256:=b.toNat_lt
  simp only [pack] at e
  have e1:a.toNat=b.toNat:=by omega
  have e2:pack l=pack m:=by omega
  rw [pack_inj l m (by simpa using h) e2,UInt8.toNat_inj.1 e1]
theorem pack_byte (l:List UInt8) (i:Nat) (b:UInt8) (h:l[i]?=some b):sbyte (pack l) i=b.toNat:=by
 unfold sbyte
 show (pack l) >>> (8*i) % 256=_
 rw [Nat.shiftRight_eq_div_pow,Nat.pow_mul,show (2:Nat) ^ 8=256 from rfl,← pack_drop]
 obtain ⟨hi,rfl⟩:=List.getElem?_eq_some_iff.1 h
 rw [List.drop_eq_getElem_cons hi]
 simp only [pack]
 have:=(l[i]).toNat_lt
 omega
theorem toList_data (s:ByteArray):s.toList=s.data.toList:=ByteArray.toList_eq s
theorem size_data (s:ByteArray):s.size=s.data.toList.length:=by
 cases s with | mk a=>exact (Array.length_toList (xs:=a)).symm
theorem bytes_ext {a b:ByteArray} (h:a.data.toList=b.data.toList):a=b:=by
 cases a;cases b;congr;exact Array.toList_inj.1 h
theorem sless_eq:∀ (l m:List UInt8),sless l.length (pack l) m.length (pack m)=Op.bytesLess l m
 | [],[]=>rfl
 | [],_::_=>rfl
 | _::_,[]=>rfl
 | a::l,b::m=>by
  have ha:a.toNat<256:=a.toNat_lt
  have hb:b.toNat<256:=b.toNat_lt
  have e1:(a.toNat+256*pack l) % 256=a.toNat:=by omega
  have e2:(b.toNat+256*pack m) % 256=b.toNat:=by omega
  have e3:(a.toNat+256*pack l) / 256=pack l:=by omega
  have e4:(b.toNat+256*pack m) / 256=pack m:=by omega
  show bs (Nat.beq ((a.toNat+256*pack l) % 256) ((b.toNat+256*pack m) % 256)) (sless l.length ((a.toNat+256*pack l) / 256) m.length ((b.toNat+256*pack m) / 256))
   (Nat.ble ((a.toNat+256*pack l) % 256+1) ((b.toNat+256*pack m) % 256))=_
  rw [e1,e2,e3,e4,sless_eq l m]
  simp only [Op.bytesLess]
  by_cases h:a.toNat=b.toNat
  ·have:a=b:=UInt8.toNat_inj.1 h
   subst this
   simp [Nat.beq_refl]
  ·have h':¬ a=b:=fun e=>h (by rw [e])
   have hq:Nat.beq a.toNat b.toNat=false:=by rw [← Bool.not_eq_true];intro k;exact h (Nat.eq_of_beq_eq_true k)
   rw [hq]
   simp only [bs_false]
   have:(a == b)=false:=by simp [h']
   rw [this]
   simp only [Bool.false_and,Bool.or_false]
   rw [Bool.eq_iff_iff]
   simp [Nat.ble_eq,UInt8.lt_iff_toNat_lt]
   omega
theorem seqB_eq (s t:ByteArray):seqB s.size (pack s.data.toList) t.size (pack t.data.toList)=(s.toList == t.toList):=by
 rw [toList_data,toList_data,Bool.eq_iff_iff]
 unfold seqB
 constructor
 ·intro h
  obtain ⟨h1,h2⟩:=both_true h
  have h1:=beq_true h1;have h2:=beq_true h2
  rw [size_data,size_data] at h1
  rw [pack_inj _ _ h1 h2];simp
 ·intro h
  have h:s.data.toList=t.data.toList:=by simpa using h
  rw [bytes_ext h]
  simp [both]
theorem cmp_true {f:Nat→Nat→Bool} {g:Int→Int→Bool} {hs:Nat→Nat→Nat→Nat→(V→Bool)→Bool} {x y:V} {k:V→Bool} (h:cmpV f g hs x y k=true) :
  (∃ n m,x=.w n∧y=.w m∧k (.t (f n m))=true)∨(∃ n m,x=.y n∧y=.y m∧k (.t (f n m))=true)∨(∃ l n l' n',x=.s l n∧y=.s l' n'∧hs l n l' n' k=true)∨
  (∃ q n m a b a' b',x=.x (.int q n) a b∧y=.x (.int q m) a' b'∧k (.t (g n m))=true):=by
 rcases bs_cases h with ⟨h1,h2⟩ | ⟨_,h2⟩
 ·obtain ⟨h3,h4⟩:=both_true h2
  exact .inl ⟨_,_,isW_true h1,isW_true h3,h4⟩
 ·rcases bs_cases h2 with ⟨h3,h4⟩ | ⟨_,h4⟩
  ·obtain ⟨h5,h6⟩:=both_true h4
   exact .inr (.inl ⟨_,_,isY_true h3,isY_true h5,h6⟩)
  ·rcases bs_cases h4 with ⟨h5,h6⟩ | ⟨_,h6⟩
   ·obtain ⟨h7,h8⟩:=both_true h6
    exact .inr (.inr (.inl ⟨_,_,_,_,isS_true h5,isS_true h7,h8⟩))
   ·obtain ⟨h7,h8⟩:=both_true h6
    obtain ⟨h9,h10⟩:=both_true h8
    obtain ⟨h11,h12⟩:=both_true h10
    have h11:xK x=xK y:=by simpa using h11
    have hy:=vtgInt_true h9
    rw [← h11] at hy
    exact .inr (.inr (.inr ⟨_,_,_,_,_,_,_,vtgInt_true h7,hy,h12⟩))
variable (P:Program)
theorem intCmp_run (op:BinOp) (t:TypeId) (q:IntKind) (n m:Int) (w:World) (r:Bool) (h1:op=.eql∨op=.neq∨op=.lss∨op=.leq∨op=.gtr∨op=.geq) (h:Op.intCmp op n m=pure (.bool r)) :
  (Go.binOp op t (.int q n) (.int q m)).run P w=.ok (.bool r) w:=by
 rw [intOp_run _ _ _ _ _ (by rcases h1 with rfl | rfl | rfl | rfl | rfl | rfl <;> simp) (by rcases h1 with rfl | rfl | rfl | rfl | rfl | rfl <;> simp)]
 rcases h1 with rfl | rfl | rfl | rfl | rfl | rfl <;> (simp only;rw [h];rfl)
theorem cmp_fun (op:BinOp) (t:TypeId) (f:Nat→Nat→Bool) (g:Int→Int→Bool) (hs:Nat→Nat→Nat→Nat→(V→Bool)→Bool) (h1:op=.eql∨op=.neq∨op=.lss∨op=.leq∨op=.gtr∨op=.geq)
  (hg:∀ n m,Op.intCmp op n m=pure (.bool (g n m))) (hf:∀ n m:Nat,∀ c:Int,g ((n:Int)-c) ((m:Int)-c)=f n m)
  (hss:∀ (s u:ByteArray) k,hs s.size (pack s.data.toList) u.size (pack u.data.toList) k=true→∃ r,Op.stringOp op s u=pure (.bool r)∧k (.t r)=true) :
  Fun2 P (cmpV f g hs) (Go.binOp op t):=by
 intro φ x y k h c d hc hd w
 rcases cmp_true h with ⟨n,m,rfl,rfl,hk⟩ | ⟨n,m,rfl,rfl,hk⟩ | ⟨l,n,l',n',rfl,rfl,hk⟩ | ⟨q,n,m,_,_,_,_,rfl,rfl,hk⟩ <;> clear h
 ·obtain ⟨hn,rfl⟩:=hc.inv_w;obtain ⟨hm,rfl⟩:=hd.inv_w
  exact ⟨_,_,intCmp_run P op t _ _ _ w _ h1 (hg _ _),by rw [hf n m];exact .t,hk⟩
 ·obtain ⟨hn,rfl⟩:=hc.inv_y;obtain ⟨hm,rfl⟩:=hd.inv_y
  refine ⟨_,_,intCmp_run P op t _ _ _ w _ h1 (hg _ _),?_,hk⟩
  have:=hf n m 0
  simp only [Int.sub_zero] at this
  rw [this];exact .t
 ·obtain ⟨s,rfl,rfl,rfl⟩:=hc.inv_s;obtain ⟨u,rfl,rfl,rfl⟩:=hd.inv_s
  obtain ⟨r,e,hk⟩:=hss s u k hk
  refine ⟨.t r,.bool r,?_,.t,hk⟩
  have:Go.binOp op t (.string s) (.string u)=Op.stringOp op s u:=by
   rcases h1 with rfl | rfl | rfl | rfl | rfl | rfl <;> rfl
  rw [this,e];rfl
 ·obtain ⟨_,_,rfl⟩:=hc.inv_int;obtain ⟨_,_,rfl⟩:=hd.inv_int
  exact ⟨_,_,intCmp_run P op t _ _ _ w _ h1 (hg _ _),.t,hk⟩
theorem nots_eq (b:Bool):nots b=!b:=by cases b <;> rfl
theorem sless_sz (s u:ByteArray):sless s.size (pack s.data.toList) u.size (pack u.data.toList)=Op.bytesLess s.toList u.toList:=by
 rw [size_data,size_data,sless_eq,toList_data,toList_data]
theorem bytesLess_total:∀ (l m:List UInt8),(Op.bytesLess l m || (l == m))=!(Op.bytesLess m l)
 | [],[]=>rfl
 | [],_::_=>rfl
 | _::_,[]=>rfl
 | a::l,b::m=>by
  have ih:=bytesLess_total l m
  simp only [Op.bytesLess]
  by_cases h:a=b
  ·subst h
   simp at ih ⊢
   exact ih
  ·have h3:a.toNat≠b.toNat:=fun e=>h (UInt8.toNat_inj.1 e)
   have hab:(a == b)=false:=by simp [h]
   have hba:(b == a)=false:=by simp;exact fun e=>h e.symm
   rw [hab,hba,List.cons_beq_cons,hab]
   simp only [Bool.false_and,Bool.or_false]
   rw [Bool.eq_iff_iff]
   simp [UInt8.lt_iff_toNat_lt]
   omega
theorem lss_fun (t:TypeId):Fun2 P lssV (Go.binOp .lss t):=
 cmp_fun P .lss t _ _ _ (by simp) (fun _ _=>rfl) (fun n m c=>by rw [Bool.eq_iff_iff];simp [Nat.ble_eq];omega) (fun s u k hk=>⟨_,rfl,by rw [sless_sz] at hk;exact hk⟩)
theorem geq_fun (t:TypeId):Fun2 P geqV (Go.binOp .geq t):=by
 intro φ x y k h c d hc hd w
 unfold geqV at h
 cases hn:vtagNN x with
 | true=>
  rw [hn,bs_true] at h
  have hx:=vtagNN_true hn
  obtain ⟨m,rfl,h2⟩:=onW_true h
  obtain ⟨h3,hk⟩:=both_true h2
  have h3:=ble_true h3
  rw [hx] at hc
  cases hc with
  | nn h0=>
   rename_i n
   obtain ⟨_,rfl⟩:=hd.inv_w
   refine ⟨_,.bool true,?_,.t,hk⟩
   refine intCmp_run P .geq t _ _ _ w true (by simp) ?_
   unfold bias at h3
   simp only [Op.intCmp]
   have:decide (n≥(m:Int)-9223372036854775808)=true:=by simp only [decide_eq_true_eq];omega
   rw [this]
 | false=>
  rw [hn,bs_false] at h
  exact cmp_fun P .geq t (fun a b=>Nat.ble b a) (fun a b=>decide (a≥b)) (fun l n l' n' k=>k (.t (nots (sless l n l' n')))) (by simp) (fun _ _=>rfl) (fun n m c=>by rw [Bool.eq_iff_iff];simp [Nat.ble_eq]) (fun s u k hk=>⟨_,rfl,by rw [sless_sz,nots_eq] at hk;exact hk⟩) φ x y k h c d hc hd w
theorem leq_fun (t:TypeId):Fun2 P leqV (Go.binOp .leq t):=
 cmp_fun P .leq t _ _ _ (by simp) (fun _ _=>rfl) (fun n m c=>by rw [Bool.eq_iff_iff];simp [Nat.ble_eq]) (fun s u k hk=>⟨_,rfl,by
  rw [sless_sz,nots_eq,← bytesLess_total] at hk;exact hk⟩)
theorem gtr_fun (t:TypeId):Fun2 P gtrV (Go.binOp .gtr t):=
 cmp_fun P .gtr t _ _ _ (by simp) (fun _ _=>rfl) (fun n m c=>by rw [Bool.eq_iff_iff];simp [Nat.ble_eq];omega) (fun s u k hk=>⟨_,rfl,by
  rw [sless_sz] at hk;show k (.t (!(Op.bytesLess s.toList u.toList || (s.toList == u.toList))))=true;rw [bytesLess_total,Bool.not_not];exact hk⟩)
theorem natbeq (n m:Nat):Nat.beq n m=decide (n=m):=by rw [Bool.eq_iff_iff];simp
theorem eql_fun (t:TypeId):Fun2 P (eqlP idB) (Go.binOp .eql t):=
 cmp_fun P .eql t _ _ _ (by simp) (fun n m=>by simp only [Op.intCmp,idB];congr) (fun n m c=>by rw [natbeq];simp only [idB];rw [Bool.eq_iff_iff];simp;omega) (fun s u k hk=>⟨_,rfl,by
  simp only [idB] at hk;rw [seqB_eq] at hk;exact hk⟩)
theorem neq_fun (t:TypeId):Fun2 P (eqlP nots) (Go.binOp .neq t):=
 cmp_fun P .neq t _ _ _ (by simp) (fun n m=>by simp only [Op.intCmp,nots_eq];congr) (fun n m c=>by rw [natbeq,nots_eq,nots_eq];congr 1;rw [Bool.eq_iff_iff];simp;omega) (fun s u k hk=>⟨_,rfl,by
  simp only [nots_eq] at hk;rw [seqB_eq] at hk;exact hk⟩)
theorem cat_fun (t:TypeId):Fun2 P catV (Go.binOp .add t):=by
 intro φ x y k h c d hc hd w
 obtain ⟨l,n,rfl,h2⟩:=onS_true h
 obtain ⟨l',n',rfl,h3⟩:=onS_true h2
 obtain ⟨h1,hk⟩:=both_true h3
 have h1:=ble_true h1
 clear h h2 h3
 obtain ⟨s,rfl,rfl,rfl⟩:=hc.inv_s;obtain ⟨u,rfl,rfl,rfl⟩:=hd.inv_s
 refine ⟨_,.string (s++u),?_,?_,hk⟩
 ·rw [show Go.binOp .add t (.string s) (.string u)=Op.stringOp .add s u from rfl]
  exact run_string_add_sum w s u (by omega)
 ·refine .s (by simp [ByteArray.size_append]) ?_
  have e:(s++u).data.toList=s.data.toList++u.data.toList:=by simp
  rw [e,pack_append,← size_data]
  show pack s.data.toList+_=pack s.data.toList+(pack u.data.toList) <<< (8*s.size)
  rw [Nat.shiftLeft_eq,Nat.pow_mul,show (2:Nat) ^ 8=256 from rfl,Nat.mul_comm]
theorem sidx_fun (t:TypeId) (ht:P.underlying t=some .string):Fun2 P sidxV (fun a b=>Instr.index t a b):=by
 intro φ x y k h c d hc hd w
 obtain ⟨l,n,rfl,h3⟩:=onS_true h
 obtain ⟨q,m,rfl,h4⟩:=onIx_true h3 hd
 obtain ⟨h2,hk⟩:=both_true h4
 have h2:=ble_true h2
 clear h h3 h4
 obtain ⟨s,rfl,rfl,rfl⟩:=hc.inv_s
 have hlt:m<s.size:=by omega
 refine ⟨_,.int .u8 ((s[m]'hlt).toNat:Int),?_,?_,hk⟩
 ·show (Instr.index t (.string s) (.int q (m:Int))).run P w=_
  rw [run_index_string w t s _ _ ht,dif_pos ⟨by omega,by omega⟩]
  rfl
 ·have:s.data.toList[m]?=some (s[m]'hlt):=by
   rw [List.getElem?_eq_some_iff]
   exact ⟨by rw [← size_data];exact hlt,rfl⟩
  rw [pack_byte _ _ _ this]
  exact .y (UInt8.toNat_lt _)
theorem not_fun:Fun1 P notV (fun v=>Op.unary .not v):=by
 intro φ x k h c hc w
 obtain ⟨b,rfl,hk⟩:=onT_true h
 obtain rfl:=hc.inv_t
 refine ⟨_,.bool !b,rfl,?_,hk⟩
 rw [nots_eq];exact .t
theorem neg_fun:Fun1 P negV (fun v=>Op.unary .neg v):=by
 intro φ x k h c hc w
 obtain ⟨n,rfl,hk⟩:=onW_true h
 obtain ⟨hn,rfl⟩:=hc.inv_w
 exact ⟨_,_,rfl,RV.mk_w _ _ (by unfold two64;omega),hk⟩
theorem Fun2.imp {f f':V→V→(V→Bool)→Bool} {g:Value→Value→Sem Value} (h:∀ x y k,f x y k=true→f' x y k=true) (hf:Fun2 P f' g):Fun2 P f g:=
 fun φ x y k hk=>hf φ x y k (h x y k hk)
theorem addW_fun (t:TypeId):Fun2 P addW (Go.binOp .add t):=(add_fun P t).imp P fun x y k h=>by
 obtain ⟨n,rfl,h1⟩:=onW_true h;obtain ⟨m,rfl,h2⟩:=onW_true h1;exact h2
theorem addY_fun (t:TypeId):Fun2 P addY (Go.binOp .add t):=(add_fun P t).imp P fun x y k h=>by
 obtain ⟨n,rfl,h1⟩:=onY_true h;obtain ⟨m,rfl,h2⟩:=onY_true h1;exact h2
theorem subW_fun (t:TypeId):Fun2 P subW (Go.binOp .sub t):=(sub_fun P t).imp P fun x y k h=>by
 obtain ⟨n,rfl,h1⟩:=onW_true h;obtain ⟨m,rfl,h2⟩:=onW_true h1;exact h2
theorem subY_fun (t:TypeId):Fun2 P subY (Go.binOp .sub t):=(sub_fun P t).imp P fun x y k h=>by
 obtain ⟨n,rfl,h1⟩:=onY_true h;obtain ⟨m,rfl,h2⟩:=onY_true h1;exact h2
theorem lssW_fun (t:TypeId):Fun2 P lssW (Go.binOp .lss t):=(lss_fun P t).imp P fun x y k h=>by
 obtain ⟨n,rfl,h1⟩:=onW_true h;obtain ⟨m,rfl,h2⟩:=onW_true h1;exact h2
theorem lssY_fun (t:TypeId):Fun2 P lssY (Go.binOp .lss t):=(lss_fun P t).imp P fun x y k h=>by
 obtain ⟨n,rfl,h1⟩:=onY_true h;obtain ⟨m,rfl,h2⟩:=onY_true h1;exact h2
theorem leqW_fun (t:TypeId):Fun2 P leqW (Go.binOp .leq t):=(leq_fun P t).imp P fun x y k h=>by
 obtain ⟨n,rfl,h1⟩:=onW_true h;obtain ⟨m,rfl,h2⟩:=onW_true h1;exact h2
theorem leqY_fun (t:TypeId):Fun2 P leqY (Go.binOp .leq t):=(leq_fun P t).imp P fun x y k h=>by
 obtain ⟨n,rfl,h1⟩:=onY_true h;obtain ⟨m,rfl,h2⟩:=onY_true h1;exact h2
theorem gtrW_fun (t:TypeId):Fun2 P gtrW (Go.binOp .gtr t):=(gtr_fun P t).imp P fun x y k h=>by
 obtain ⟨n,rfl,h1⟩:=onW_true h;obtain ⟨m,rfl,h2⟩:=onW_true h1;exact h2
theorem gtrY_fun (t:TypeId):Fun2 P gtrY (Go.binOp .gtr t):=(gtr_fun P t).imp P fun x y k h=>by
 obtain ⟨n,rfl,h1⟩:=onY_true h;obtain ⟨m,rfl,h2⟩:=onY_true h1;exact h2
theorem geqY_fun (t:TypeId):Fun2 P geqY (Go.binOp .geq t):=(geq_fun P t).imp P fun x y k h=>by
 obtain ⟨n,rfl,h1⟩:=onY_true h;obtain ⟨m,rfl,h2⟩:=onY_true h1;exact h2
theorem eqlW_fun (t:TypeId):Fun2 P eqlW (Go.binOp .eql t):=(eql_fun P t).imp P fun x y k h=>by
 obtain ⟨n,rfl,h1⟩:=onW_true h;obtain ⟨m,rfl,h2⟩:=onW_true h1;exact h2
theorem eqlY_fun (t:TypeId):Fun2 P eqlY (Go.binOp .eql t):=(eql_fun P t).imp P fun x y k h=>by
 obtain ⟨n,rfl,h1⟩:=onY_true h;obtain ⟨m,rfl,h2⟩:=onY_true h1;exact h2
theorem eqlS_fun (t:TypeId):Fun2 P eqlS (Go.binOp .eql t):=(eql_fun P t).imp P fun x y k h=>by
 obtain ⟨l,n,rfl,h1⟩:=onS_true h;obtain ⟨l',m,rfl,h2⟩:=onS_true h1;exact h2
theorem neqW_fun (t:TypeId):Fun2 P neqW (Go.binOp .neq t):=(neq_fun P t).imp P fun x y k h=>by
 obtain ⟨n,rfl,h1⟩:=onW_true h;obtain ⟨m,rfl,h2⟩:=onW_true h1;exact h2
theorem neqY_fun (t:TypeId):Fun2 P neqY (Go.binOp .neq t):=(neq_fun P t).imp P fun x y k h=>by
 obtain ⟨n,rfl,h1⟩:=onY_true h;obtain ⟨m,rfl,h2⟩:=onY_true h1;exact h2
theorem neqS_fun (t:TypeId):Fun2 P neqS (Go.binOp .neq t):=(neq_fun P t).imp P fun x y k h=>by
 obtain ⟨l,n,rfl,h1⟩:=onS_true h;obtain ⟨l',m,rfl,h2⟩:=onS_true h1;exact h2
end Go.Bvm
set_option linter.unusedVariables false
namespace Go.Bvm
mutual
theorem absV_ok (φ:Phi):∀ (v:Value) (x:V),absV v=some x→RV φ x v
 | .bool b,x,h=>by simp [absV] at h;subst h;exact .t
 | .int k n,x,h=>by
  cases k <;> simp only [absV] at h
  case i64=>
   split at h
   ·rename_i hh
    simp only [Option.some.injEq] at h;subst h
    have e:n=(((n+9223372036854775808).toNat:Nat):Int)-9223372036854775808:=by omega
    have:=RV.w (φ:=φ) (n:=(n+9223372036854775808).toNat) (by omega)
    rw [← e] at this;exact this
   ·simp at h
  case u8=>
   split at h
   ·rename_i hh
    simp only [Option.some.injEq] at h;subst h
    have e:n=((n.toNat:Nat):Int):=by omega
    have:=RV.y (φ:=φ) (n:=n.toNat) (by omega)
    rw [← e] at this;exact this
   ·simp at h
  all_goals (simp only [Option.some.injEq] at h;subst h;exact RV.mkI (by simp) (by simp))
 | .string s,x,h=>by simp [absV] at h;subst h;exact .s rfl rfl
 | .pointer none,x,h=>by simp [absV] at h;subst h;exact .pnil
 | .pointer (some _),x,h=>by simp [absV] at h
 | .slice none 0 0,x,h=>by simp [absV] at h;subst h;exact .slnil
 | .slice none 0 (_+1),x,h=>by simp [absV] at h
 | .slice none (_+1) _,x,h=>by simp [absV] at h
 | .slice (some _) _ _,x,h=>by simp [absV] at h
 | .nilFunc,x,h=>by simp [absV] at h;subst h;exact .fnil
 | .nilIface,x,h=>by simp [absV] at h;subst h;exact .inil
 | .map none,x,h=>by simp [absV] at h;subst h;exact .mnil
 | .map (some _),x,h=>by simp [absV] at h
 | .agg ⟨l⟩,x,h=>by
  simp only [absV] at h
  split at h
  ·rename_i q hq
   split at h
   ·rename_i hall
    simp only [Option.some.injEq] at h;subst h;exact .agg (absL_ok φ l q hq) (by simpa using hall)
   ·simp at h
  ·simp at h
 | .float _ _,x,h=>by simp [absV] at h
 | .complex _ _ _,x,h=>by simp [absV] at h
 | .chan _,x,h=>by simp [absV] at h
 | .func _ _ _,x,h=>by simp [absV] at h
 | .iface _ _,x,h=>by simp [absV] at h
 | .tuple _,x,h=>by simp [absV] at h
theorem absL_ok (φ:Phi):∀ (l:List Value) (x:V),absL l=some x→RL φ x l
 | [],x,h=>by simp [absL] at h;subst h;exact .nil
 | v::r,x,h=>by
  simp only [absL] at h
  split at h
  ·rename_i a b ha hb
   simp only [Option.some.injEq] at h;subst h;exact .cons (absV_ok φ v a ha) (absL_ok φ r b hb)
  ·simp at h
end
variable {P:Program} {G:Nat→Bool} {N:Fr} {q:Operand→Option V}
def OpRun (P:Program) (s:Sem Next) (w:World) (post:Value→World→Prop):Prop:=
 (∃ c w',s.run P w=.ok (.value c) w'∧post c w')∨(∃ w',s.run P w=.ok .skip w'∧post undef w')∨
 ∃ f args,s.run P w=.ok (.enter f args) w∧Calls P f args w fun e w'=>∃ c,e=.returned c∧post c w'
theorem OpRun.mono {s:Sem Next} {w:World} {post post':Value→World→Prop} (h:OpRun P s w post) (k:∀ c w',post c w'→post' c w'):OpRun P s w post':=by
 rcases h with ⟨c,w',h1,h2⟩ | ⟨w',h1,h2⟩ | ⟨f,args,h1,h2⟩
 ·exact .inl ⟨c,w',h1,k _ _ h2⟩
 ·exact .inr (.inl ⟨w',h1,k _ _ h2⟩)
 ·exact .inr (.inr ⟨f,args,h1,h2.mono fun e w' ⟨c,e1,e2⟩=>⟨c,e1,k _ _ e2⟩⟩)
theorem OpRun.wp {o:Oper} {a:Act} {w:World} {post:Value→World→Prop} {next:Act→World→Prop} {Q:Exit→Act→World→Prop} (h:OpRun P (execOp a.eval o) w post) (hn:∀ c w',post c w'→next (a.put o.dst c) w'):o.wp P a w next Q:=by
 unfold Oper.wp
 rcases h with ⟨c,w',h1,h2⟩ | ⟨w',h1,h2⟩ | ⟨f,args,h1,h2⟩
 ·rw [h1];exact hn _ _ h2
 ·rw [h1];exact hn _ _ h2
 ·rw [h1,Oper.upon_enter]
  refine h2.mono ?_
  rintro e w' ⟨c,rfl,h3⟩
  exact hn _ _ h3
def QR (φ:Phi) (q:Operand→Option V) (ρ:Operand→Value):Prop:=∀ x a,q x=some a→RV φ a (ρ x)
theorem opr_ok {φ:Phi} {ρ:TL} {e:L8} {a:Act} (hg:GlobOk P G φ) (r:RE φ N ρ e a):QR φ (opr P G N ρ e) a.eval:=by
 intro x g h
 cases x with
 | tmp t=>
  simp only [opr] at h
  split at h
  ·rename_i ht
   simp only [Option.some.injEq] at h;subst h
   obtain ⟨v,hv,rv,_⟩:=r.at_ t ht
   show RV φ _ (a.tmps.getD t undef)
   rw [Array.getD_eq_getD_getElem?,hv];exact rv
  ·simp at h
 | const v=>
  exact absV_ok φ v g h
 | global g=>
  simp only [opr] at h
  split at h
  ·rename_i hG
   split at h
   ·rename_i q hq
    simp only [Option.some.injEq] at h;subst h
    obtain ⟨l,hl,rfl,hb,hs⟩:=hg g q hG hq
    have:=RV.p (off:=0) hl hs
    rw [hb] at this;exact this
   ·simp at h
  ·simp at h
 | func f=>
  simp only [opr,Option.some.injEq] at h;subst h;exact .func .nil .nil
theorem un_true {x:Operand} {f:V→Bool} (h:un q x f=true):∃ g,q x=some g∧f g=true:=by
 unfold un at h
 split at h
 ·exact ⟨_,‹_›,h⟩
 ·simp at h
theorem bi_true {x y:Operand} {f:V→V→Bool} (h:bi q x y f=true):∃ g g',q x=some g∧q y=some g'∧f g g'=true:=by
 unfold bi at h
 split at h
 ·exact ⟨_,_,‹_›,‹_›,h⟩
 ·simp at h
theorem oprs_ok {φ:Phi} {ρ:Operand→Value} (r:QR φ q ρ):∀ (xs:List Operand) (l:V),oprs q xs=some l→RL φ l (xs.map ρ)
 | [],l,h=>by simp [oprs] at h;subst h;exact .nil
 | x::rest,l,h=>by
  simp only [oprs] at h
  split at h
  ·rename_i a b ha hb
   simp only [Option.some.injEq] at h;subst h
   exact .cons (r _ _ ha) (oprs_ok r rest b hb)
  ·simp at h
def PopS (P:Program) (q:Operand→Option V) (o:Oper) (k:V→Bool):Prop:=∀ φ (ρ:Operand→Value) h w,QR φ q ρ→Rel φ h w→∃ v c,(execOp ρ o).run P w=.ok (.value c) w∧RV φ v c∧k v=true
theorem run_value (s:Sem Value) (w w':World) (c:Value) (h:s.run P w=.ok c w'):(do pure (Next.value (← s)):Sem Next).run P w=.ok (.value c) w':=by
 rw [Sem.run_bind,h];rfl
theorem PopS.fun1 {o:Oper} {x:Operand} {f:V→(V→Bool)→Bool} {F:Value→Sem Value} {k:V→Bool} (h:un q x (fun a=>f a k)=true) (hf:Fun1 P f F)
  (ho:∀ ρ:Operand→Value,execOp ρ o=(do pure (Next.value (← F (ρ x))))):PopS P q o k:=by
 intro φ ρ hh w r R
 obtain ⟨g,hx,hk⟩:=un_true h
 obtain ⟨v,c,h1,h2,h3⟩:=hf φ _ _ hk _ (r _ _ hx) w
 exact ⟨v,c,by rw [ho];exact run_value _ _ _ _ h1,h2,h3⟩
theorem PopS.fun2 {o:Oper} {x y:Operand} {f:V→V→(V→Bool)→Bool} {F:Value→Value→Sem Value} {k:V→Bool} (h:bi q x y (fun a b=>f a b k)=true) (hf:Fun2 P f F)
  (ho:∀ (ρ:Operand→Value) (w:World) c,(F (ρ x) (ρ y)).run P w=.ok c w→(execOp ρ o).run P w=.ok (.value c) w):PopS P q o k:=by
 intro φ ρ hh w r R
 obtain ⟨g,g',hx,hy,hk⟩:=bi_true h
 obtain ⟨v,c,h1,h2,h3⟩:=hf φ _ _ _ hk _ _ (r _ _ hx) (r _ _ hy) w
 exact ⟨v,c,ho ρ w c h1,h2,h3⟩
theorem mov_ok {o:Oper} {x:Operand} {k:V→Bool} (h:un q x k=true) (ho:o.op=.move x∨o.op=.assign x):PopS P q o k:=by
 intro φ ρ hh w r R
 obtain ⟨g,hx,hk⟩:=un_true h
 exact ⟨_,_,by rcases ho with ho | ho <;> (unfold execOp;rw [ho];rfl),r _ _ hx,hk⟩
theorem pick_ok {o:Oper} {c x y:Operand} {k:V→Bool} (h:un q c (fun c=>bi q x y fun a b=>pickV c a b k)=true) (ho:o.op=.pick c x y):PopS P q o k:=by
 obtain ⟨dst,op',ty,pos,aft,grd⟩:=o
 simp only at ho;subst ho
 intro φ ρ hh w r R
 obtain ⟨z,hc,h⟩:=un_true h
 obtain ⟨g,g',hx,hy,h⟩:=bi_true h
 obtain ⟨t,ht,hk⟩:=onT_true h
 have rc:=r _ _ hc
 rw [ht] at rc
 have rc:=rc.inv_t
 refine ⟨_,if t=true then ρ x else ρ y,?_,?_,hk⟩
 ·show (do pure (Next.value (if ← asBool (ρ c) then ρ x else ρ y)):Sem Next).run P w=_
  rw [rc];rfl
 ·cases t
  ·exact r _ _ hy
  ·exact r _ _ hx
theorem run_under {t:TypeId} {d:TypeDesc} (h:P.underlying t=some d) (w:World):(underlying t).run P w=.ok d w:=by
 unfold underlying;rw [Sem.run_bind,run_program];simp only [Result.andThen_ok,h];rfl
theorem run_info {t:TypeId} {d:TypeInfo} (h:P.info? t=some d) (w:World):(typeInfo t).run P w=.ok d w:=by
 unfold typeInfo;rw [Sem.run_bind,run_program];simp only [Result.andThen_ok,h];rfl
theorem binop_exec (op:BinOp) (t:TypeId) (x y:Operand) (u:TypeId) (o:Oper) (ho:o.op=.binOp op t x y u) (ρ:Operand→Value) (w:World) (c:Value)
  (hne:(op≠.eql∧op≠.neq)∨((ρ x≠.nilIface∨ρ y≠.nilIface∨x=.const .nilIface∨y=.const .nilIface)∧∀ l,ρ x≠.agg l))
  (h:(Go.binOp op t (ρ x) (ρ y)).run P w=.ok c w):(execOp ρ o).run P w=.ok (.value c) w:=by
 obtain ⟨dst,op',ty,pos,aft,grd⟩:=o
 simp only at ho;subst ho
 refine run_value (do eqGuard op t x y (ρ x) (ρ y);Go.binOp op t (ρ x) (ρ y)) _ _ _ ?_
 rw [Sem.run_bind]
 have:(eqGuard op t x y (ρ x) (ρ y)).run P w=.ok () w:=by
  unfold eqGuard
  rcases hne with ⟨h1,h2⟩ | ⟨h1,h2⟩
  ·cases op <;> simp at h1 h2 ⊢
  ·cases op <;> simp
   all_goals
    split
    ·rename_i e1 e2
     rcases h1 with k | k | k | k
     ·exact absurd e1 k
     ·exact absurd e2 k
     ·subst k;simp
     ·subst k;simp
    ·exact absurd ‹_› (h2 _)
    ·rfl
 rw [this];exact h
theorem cmp_noagg {f:Nat→Nat→Bool} {g:Int→Int→Bool} {hs:Nat→Nat→Nat→Nat→(V→Bool)→Bool} {φ:Phi} {x y:V} {k:V→Bool} (h:cmpV f g hs x y k=true) (c:Value) (hc:RV φ x c):c≠.nilIface∧∀ l,c≠.agg l:=by
 rcases cmp_true h with ⟨n,m,rfl,rfl,hk⟩ | ⟨n,m,rfl,rfl,hk⟩ | ⟨l,n,l',n',rfl,rfl,hk⟩ | ⟨q,n,m,_,_,_,_,rfl,rfl,hk⟩
 ·obtain ⟨_,rfl⟩:=hc.inv_w;simp
 ·obtain ⟨_,rfl⟩:=hc.inv_y;simp
 ·obtain ⟨_,rfl,_⟩:=hc.inv_s;simp
 ·obtain ⟨_,_,rfl⟩:=hc.inv_int;simp
theorem eqT_fun (f:Bool→Bool) (op:BinOp) (t:TypeId) (ht:P.underlying t=some .bool) (hop:op=.eql∧f=idB∨op=.neq∧f=nots):Fun2 P (eqT f) (Go.binOp op t):=by
 intro φ x y k h c d hc hd w
 obtain ⟨b,rfl,h2⟩:=onT_true h
 obtain ⟨b',rfl,hk⟩:=onT_true h2
 obtain rfl:=hc.inv_t;obtain rfl:=hd.inv_t
 have e:(Op.equal t (.bool b) (.bool b')).run P w=.ok (b == b') w:=by
  unfold Op.equal Op.maxDepth
  show (Op.equalIn (9999+1) t (.bool b) (.bool b')).run P w=_
  unfold Op.equalIn
  rw [Sem.run_bind,run_under ht];rfl
 have e2:bs b b' (nots b')=(b == b'):=by cases b <;> cases b' <;> rfl
 rw [e2] at hk
 rcases hop with ⟨rfl,rfl⟩ | ⟨rfl,rfl⟩
 ·refine ⟨_,.bool (b == b'),?_,.t,hk⟩
  show (do pure (Value.bool (← Op.equal t (.bool b) (.bool b'))):Sem Value).run P w=_
  rw [Sem.run_bind,e];rfl
 ·rw [nots_eq] at hk
  refine ⟨_,.bool (!(b == b')),?_,.t,hk⟩
  show (do pure (Value.bool (!(← Op.equal t (.bool b) (.bool b')))):Sem Value).run P w=_
  rw [Sem.run_bind,e];rfl
end Go.Bvm
set_option linter.unusedVariables false
namespace Go.Bvm
theorem Rel.lt {φ:Phi} {h:H} {w:World} (R:Rel φ h w) {id v:Nat} {l:Loc} (e:φ id v=some l):0≤id:=Nat.zero_le _
theorem Rel.bk {φ:Phi} {h:H} {w:World} (R:Rel φ h w) {id ver:Nat} {l:Loc} (e:φ id ver=some l) {c:Arr} {size bver frz elem:Nat} {ex own:Bool} (hb:hget id h.tr=.bk c size bver frz elem ex own) :
  ∃ l' cs fr,φ id bver=some l'∧l'.sz=size∧w.heap[l'.B]?=some (.cells cs elem fr)∧l'.bsz=cs.size∧l'.base+size≤cs.size∧size≤acap c∧
   (∀ i,i<size→∃ v,cs[l'.base+i]?=some v∧RV φ (aget i c) v∧v.oneCell'=true)∧(∀ v,bver<v→φ id v=none)∧
   (own=true→∀ i,frz≤i→l'.base+i<cs.size→¬ (fr.1≤l'.base+i∧l'.base+i<fr.2))∧(ex=true→l'.base=0∧size=cs.size):=by
 have:=R.blk id (R.lt e)
 rw [hb] at this
 exact this
theorem cell_of_block {w:World} {B o:Nat} {cs:Array Value} {elem:TypeId} {fr:Nat×Nat} (h:w.heap[B]?=some (.cells cs elem fr)):w.cell? ⟨B,o,none⟩=cs[o]?:=by
 unfold World.cell?;simp [h]
theorem frozen_of_block {w:World} {B o:Nat} {cs:Array Value} {elem:TypeId} {fr:Nat×Nat} (h:w.heap[B]?=some (.cells cs elem fr)):w.frozen? ⟨B,o,none⟩=(decide (fr.1≤o) && decide (o<fr.2)):=by
 unfold World.frozen?;simp [h]
theorem add_addr (B o j:Nat):Addr.add ⟨B,o,none⟩ j=⟨B,o+j,none⟩:=by
 unfold Addr.add;split
 ·rename_i h;subst h;simp
 ·rfl
theorem Rel.cell {φ:Phi} {h:H} {w:World} (R:Rel φ h w) {id ver:Nat} {l:Loc} (e:φ id ver=some l) {c:Arr} {size frz elem:Nat} {ex own:Bool} (hb:hget id h.tr=.bk c size ver frz elem ex own) {i:Nat} (hi:i<l.sz) :
  ∃ v,w.cell? ⟨l.B,l.base+i,none⟩=some v∧RV φ (aget i c) v∧v.oneCell'=true:=by
 obtain ⟨l',cs,fr,e',hs,hh,_,hle,_,hc,_⟩:=R.bk e hb
 rw [e] at e';cases e'
 obtain ⟨v,hv,hr⟩:=hc i (by omega)
 exact ⟨v,by rw [cell_of_block hh];exact hv,hr⟩
theorem cells_rel {φ:Phi} {w:World} {c:Arr} {B o:Nat}:∀ (n i:Nat),(∀ j,j<n→∃ v,w.cell? ⟨B,o+i+j,none⟩=some v∧RV φ (aget (i+j) c) v∧v.oneCell'=true)→
  ∃ l:List Value,l.length=n∧RL φ (cells c n i) l∧(∀ v,v∈l→v.oneCell'=true)∧∀ (j:Nat) v,l[j]?=some v→w.cell? ⟨B,o+i+j,none⟩=some v
 | 0,i,_=>⟨[],rfl,.nil,by simp,by simp⟩
 | n+1,i,h=>by
  obtain ⟨v,hv,hr,ho⟩:=h 0 (by omega)
  obtain ⟨l,h1,h2,h3,h4⟩:=cells_rel n (i+1) (fun j hj=>by
   have:=h (j+1) (by omega)
   rw [show o+(i+1)+j=o+i+(j+1) from by omega,show i+1+j=i+(j+1) from by omega];exact this)
  refine ⟨v::l,by simp [h1],.cons hr h2,by simpa using ⟨ho,h3⟩,fun j u hu=>?_⟩
  cases j with
  | zero=>simp at hu;subst hu;simpa using hv
  | succ j=>
   have:=h4 j u (by simpa using hu)
   rw [show o+i+(j+1)=o+(i+1)+j from by omega];exact this
theorem storeCells_run {P:Program} {B:Nat} {elem:TypeId} {fr:Nat×Nat}:∀ (vs:List Value) (i o:Nat) (w:World) (cs:Array Value),w.heap[B]?=some (.cells cs elem fr)→(∀ v,v∈vs→v.oneCell'=true)→o+i+vs.length≤cs.size→
  (∀ j,j<vs.length→¬ (fr.1≤o+i+j∧o+i+j<fr.2))→
  ∃ w' cs',(storeCells ⟨B,o,none⟩ vs i).run P w=.ok () w'∧w'.heap[B]?=some (.cells cs' elem fr)∧cs'.size=cs.size∧(∀ k,cs'[k]?=if o+i≤k∧k<o+i+vs.length then vs[k-(o+i)]? else cs[k]?)∧
   w'.heap.size=w.heap.size∧w'.os=w.os∧w'.tape=w.tape∧w'.output=w.output∧∀ k,k≠B→w'.heap[k]?=w.heap[k]?
 | [],i,o,w,cs,h,_,_,_=>⟨w,cs,rfl,h,rfl,fun k=>by rw [if_neg (by simp only [List.length_nil];omega)],rfl,rfl,rfl,rfl,fun _ _=>rfl⟩
 | v::r,i,o,w,cs,h,hone,hle,hfr=>by
  have hlt:o+i<cs.size:=by simp at hle;omega
  have h1:w.cell? ⟨B,o+i,none⟩=some cs[o+i]:=by rw [cell_of_block h];exact Array.getElem?_eq_getElem hlt
  have h2:w.frozen? ⟨B,o+i,none⟩=false:=by
   rw [frozen_of_block h]
   have:=hfr 0 (by simp)
   simp at this ⊢;omega
  have hB:(w.setCell ⟨B,o+i,none⟩ v).heap[B]?=some (.cells (cs.setIfInBounds (o+i) v) elem fr):=by
   simp only [World.setCell,Array.getElem?_modify]
   simp [h]
  obtain ⟨w',cs',e1,e2,e3,e4,e5,e6,e7,e8,e9⟩:=storeCells_run r (i+1) o (w.setCell ⟨B,o+i,none⟩ v) _ hB (fun u hu=>hone u (by simp [hu])) (by simp at hle ⊢;omega) (fun j hj=>by
   have:=hfr (j+1) (by simp;omega)
   rw [show o+(i+1)+j=o+i+(j+1) from by omega];exact this)
  refine ⟨w',cs',?_,e2,by rw [e3];simp,fun k=>?_,by rw [e5];simp,e6,e7,e8,fun k hk=>?_⟩
  ·unfold storeCells
   rw [Sem.run_bind,add_addr,run_store P w _ v _ (hone v (by simp)),h1,h2]
   exact e1
  ·rw [e4 k]
   by_cases hk:k=o+i
   ·subst hk
    rw [if_neg (by omega),if_pos (by simp)]
    simp [hlt]
   ·by_cases hk2:o+(i+1)≤k∧k<o+(i+1)+r.length
    ·rw [if_pos hk2,if_pos (by simp;omega)]
     rw [show k-(o+i)=(k-(o+(i+1)))+1 from by omega];simp
    ·rw [if_neg hk2,if_neg (by simp;omega),Array.getElem?_setIfInBounds,if_neg (by omega)]
  ·rw [e9 k hk]
   exact Go.RowKit.Below.heap_setCell _ _ _ _ hk
theorem Rel.put {φ:Phi} {h:H} {w:World} (R:Rel φ h w) {φ':Phi} {w':World} {id nx:Nat} {b:Blk} {T:T6} {l:Loc} (hid:id<nx) (hnx:h.next≤nx) (hnx2:0≤nx)
  (hT:∀ i,0≤i→i≠id→hget i T=hget i h.tr∨hget i T=.nb) (hle:φ.le φ') (hold:∀ i v m,φ' i v=some m→i≠id→φ i v=some m)
  (hdom:∀ v m,φ' id v=some m→m.B<w'.heap.size∧m.base+m.sz≤m.bsz) (hsz:w.heap.size≤w'.heap.size) (hheap:∀ B,B<w.heap.size→B≠l.B→w'.heap[B]?=w.heap[B]?)
  (hb:BlkOk φ' w' id b) (hl:φ' id (verOf b)=some l) (hap:∀ j m,0≤j→j≠id→hget j T≠.nb→φ j (verOf (hget j T))=some m→m.B≠l.B):Rel φ' ⟨nx,hset id b T⟩ w':=by
 have hid2:0≤id:=by omega
 refine ⟨hnx2,?_,?_,?_⟩
 ·intro i v m e
  by_cases hi:i=id
  ·subst hi;exact ⟨hid,hdom v m e⟩
  ·obtain ⟨h1,h2,h3⟩:=R.dom i v m (hold i v m e hi)
   exact ⟨by show i<nx;omega,by omega,h3⟩
 ·intro i hi
  show BlkOk φ' w' i (hget i (hset id b T))
  rw [hget_hset _ _ _ _ hi hid2]
  by_cases e:i=id
  ·rw [if_pos e];subst e;exact hb
  ·rw [if_neg e]
   rcases hT i hi e with ht | ht
   ·have hB:=R.blk i hi
    rw [← ht] at hB
    cases hc:hget i T with
    | nb=>exact trivial
    | mp kv=>
     rw [hc] at hB
     obtain ⟨m,es,ck,e1,e2,e3,e4,e5⟩:=hB
     have hm:=(R.dom i 0 m e1).2.1
     have hne:=hap i m hi e (by rw [hc];simp) (by rw [hc];exact e1)
     exact ⟨m,es,ck,hle _ _ _ e1,e2,by rw [hheap _ hm hne];exact e3,e4.mono hle,fun v hv=>by
      cases hq:φ' i v with
      | none=>rfl
      | some q=>have:=hold i v q hq e;rw [e5 v hv] at this;exact absurd this (by simp)⟩
    | pin a b c=>
     rw [hc] at hB
     obtain ⟨m,el,fr,e1,e2,e3,e5⟩:=hB
     have hm:=(R.dom i 0 m e1).2.1
     have hne:=hap i m hi e (by rw [hc];simp) (by rw [hc];exact e1)
     exact ⟨m,el,fr,hle _ _ _ e1,e2,by rw [hheap _ hm hne];exact e3,fun v hv=>by
      cases hq:φ' i v with
      | none=>rfl
      | some q=>have:=hold i v q hq e;rw [e5 v hv] at this;exact absurd this (by simp)⟩
    | it n r pos=>
     rw [hc] at hB
     obtain ⟨m,s,e1,e2,e3,e4,e5,e6,e7⟩:=hB
     have hm:=(R.dom i 0 m e1).2.1
     have hne:=hap i m hi e (by rw [hc];simp) (by rw [hc];exact e1)
     exact ⟨m,s,hle _ _ _ e1,e2,by rw [hheap _ hm hne];exact e3,e4,e5,e6,fun v hv=>by
      cases hq:φ' i v with
      | none=>rfl
      | some q=>have:=hold i v q hq e;rw [e7 v hv] at this;exact absurd this (by simp)⟩
    | bk c size ver frz elem ex own=>
     rw [hc] at hB
     obtain ⟨m,cs,fr,e1,e2,e3,e4,e5,e6,e7,e8,e9,e10⟩:=hB
     have hm:=(R.dom i ver m e1).2.1
     have hne:=hap i m hi e (by rw [hc];simp) (by rw [hc];exact e1)
     refine ⟨m,cs,fr,hle _ _ _ e1,e2,by rw [hheap _ hm hne];exact e3,e4,e5,e6,fun j hj=>?_,fun v hv=>?_,e9,e10⟩
     ·obtain ⟨v,a1,a2,a3⟩:=e7 j hj;exact ⟨v,a1,a2.mono hle,a3⟩
     ·cases hq:φ' i v with
      | none=>rfl
      | some q=>have:=hold i v q hq e;rw [e8 v hv] at this;exact absurd this (by simp)
   ·rw [ht];exact trivial
 ·intro i j hi hj hne ho hn m1 m2 hm1 hm2
  dsimp only at hm1 hm2 ho hn
  rw [hget_hset _ _ _ _ hi hid2] at hm1 ho
  rw [hget_hset _ _ _ _ hj hid2] at hm2 hn
  by_cases e1:i=id
  ·have e2:j≠id:=fun k=>hne (by rw [e1,k])
   rw [if_pos e1] at hm1
   rw [if_neg e2] at hm2 hn
   subst e1
   rw [hl] at hm1;cases hm1
   exact fun k=>hap j m2 hj e2 hn (hold j _ _ hm2 e2) k.symm
  ·rw [if_neg e1] at hm1 ho
   by_cases e2:j=id
   ·rw [if_pos e2] at hm2
    subst e2
    rw [hl] at hm2;cases hm2
    exact hap i m1 hi e1 (by intro k;rw [k] at ho;simp [owns] at ho) (hold i _ _ hm1 e1)
   ·rw [if_neg e2] at hm2 hn
    rcases hT i hi e1 with t1 | t1
    ·rcases hT j hj e2 with t2 | t2
     ·rw [t1] at hm1 ho;rw [t2] at hm2 hn
      exact R.apart i j hi hj hne ho hn m1 m2 (hold i _ _ hm1 e1) (hold j _ _ hm2 e2)
     ·exact absurd t2 hn
    ·rw [t1] at ho;simp [owns] at ho
theorem Ext.put {φ:Phi} {h:H} {w:World} {φ':Phi} {w':World} {id n0 nx:Nat} {b:Blk} {T:T6} {l:Loc} (hid:0≤id)
  (hT:∀ i,0≤i→i≠id→hget i T=hget i h.tr∨hget i T=.nb) (hle:φ.le φ') (hold:∀ i v m,φ' i v=some m→i≠id→φ i v=some m)
  (hsz:w.heap.size≤w'.heap.size) (hos:w'.os=w.os) (htp:w'.tape=w.tape) (hou:w'.output=w.output) (hn0:0≤n0) (hn:n0≤nx) (hlive:n0≤id∨hget id h.tr≠.nb)
  (hheap:∀ B,B<w.heap.size→B≠l.B→w'.heap[B]?=w.heap[B]?) (hl:φ' id (verOf b)=some l) (hown:Own φ h.tr l.B∨w.heap.size≤l.B):Ext φ ⟨n0,h.tr⟩ w φ' ⟨nx,hset id b T⟩ w':=by
 refine ⟨hle,hos,htp,hou,hsz,hn,fun B hB hO=>?_,fun B hB hO=>?_,fun B hB hO=>?_,fun i hi hnb=>?_⟩
 ·obtain ⟨i,m,hi,ho,hm,hmB⟩:=hO
  dsimp only at ho hm
  rw [hget_hset _ _ _ _ hi hid] at ho hm
  by_cases e:i=id
  ·rw [if_pos e] at hm
   subst e
   rw [hl] at hm;cases hm
   rcases hown with k | k
   ·rw [← hmB];exact k
   ·omega
  ·rw [if_neg e] at ho hm
   rcases hT i hi e with t | t
   ·rw [t] at ho hm;exact ⟨i,m,hi,ho,hold _ _ _ hm e,hmB⟩
   ·rw [t] at ho;simp [owns] at ho
 ·obtain ⟨i,m,hi,ho,hm,hmB⟩:=hO
  dsimp only at ho hm
  rw [hget_hset _ _ _ _ hi hid] at ho hm
  by_cases e:i=id
  ·rw [if_pos e] at hm
   subst e
   rw [hl] at hm;cases hm
   rcases hown with k | k
   ·rw [← hmB];exact k.vis
   ·omega
  ·rw [if_neg e] at ho hm
   rcases hT i hi e with t | t
   ·rw [t] at ho hm;exact ⟨i,m,hi,ho,hold _ _ _ hm e,hmB⟩
   ·rw [t] at ho;exact absurd rfl ho
 ·rcases hown with k | k
  ·exact hheap B hB (fun e=>hO (by rw [e];exact k))
  ·exact hheap B hB (by omega)
 ·dsimp only at hi hnb
  have hi2:0≤i:=by omega
  have e:i≠id:=fun e=>by
   subst e
   rcases hlive with k | k
   ·omega
   ·exact k hnb
  dsimp only
  rw [hget_hset _ _ _ _ hi2 hid,if_neg e]
  refine ⟨?_,fun v=>?_⟩
  ·rcases hT i hi2 e with t | t
   ·rw [t];exact hnb
   ·exact t
  ·cases hq:φ' i v with
   | some m=>exact (hold i v m hq e).symm
   | none=>
    cases hq2:φ i v with
    | none=>rfl
    | some m=>rw [hle _ _ _ hq2] at hq;simp at hq
end Go.Bvm
set_option linter.unusedVariables false
namespace Go.Bvm
variable {P:Program} {G:Nat→Bool} {N:Fr} {q:Operand→Option V}
theorem under_info {t:TypeId} {d:TypeDesc} (h:P.underlying t=some d):∃ i,P.info? t=some i:=by
 unfold Program.underlying at h
 cases e:P.info? t with
 | none=>rw [e] at h;simp at h
 | some i=>exact ⟨i,rfl⟩
theorem hasT_under {t:TypeId} (h:hasT P t=true):∃ d,P.underlying t=some d:=by
 unfold hasT at h;split at h
 ·exact ⟨_,‹_›⟩
 ·simp at h
theorem run_size {t:TypeId} {i:TypeInfo} (h:P.info? t=some i) (w:World):(sizeOf t).run P w=.ok (sizeT P t) w:=by
 unfold sizeOf sizeT
 rw [Sem.run_bind,run_info h,h];rfl
theorem run_isAgg {t:TypeId} {d:TypeDesc} (h:P.underlying t=some d) (w:World):(isAgg t).run P w=.ok (!oneT P t) w:=by
 unfold isAgg oneT
 rw [Sem.run_bind,run_under h,h]
 simp only [Result.andThen_ok]
 cases d <;> rfl
theorem sizeT_info {t:TypeId} (h:sizeT P t≠0):∃ i,P.info? t=some i:=by
 unfold sizeT at h
 cases e:P.info? t with
 | none=>rw [e] at h;simp at h
 | some i=>exact ⟨i,rfl⟩
theorem fad_ok {o:Oper} {s:TypeId} {x:Operand} {f:Nat} {fs:Array Field} {r:Field} {k:V→Bool} (h:un q x (fun a=>fadV r.offset a k)=true) (ho:o.op=.fieldAddr s x f) (hs:P.underlying s=some (.struct fs)) (hf:fs[f]?=some r) (hq:sizeT P r.type≠0) :
  PopS P q o k:=by
 obtain ⟨dst,op',ty,pos,aft,grd⟩:=o
 simp only at ho;subst ho
 refine PopS.fun1 (f:=fadV r.offset) (F:=fun v=>Instr.fieldAt s v f) h ?_ (fun ρ=>rfl)
 intro φ x k h c hc w
 obtain ⟨id,off,lim,ver,rfl,hk⟩:=onP_true h
 obtain ⟨l,e,hl,rfl⟩:=hc.inv_p
 obtain ⟨i,hi⟩:=sizeT_info hq
 refine ⟨_,.pointer (some ⟨l.B,l.base+(off+r.offset),none⟩),?_,.p e hl,hk⟩
 unfold Instr.fieldAt
 rw [Sem.run_bind,run_under hs]
 simp only [Result.andThen_ok,hf]
 rw [Sem.run_bind]
 simp only [Instr.sureAddr,Sem.run_pure,Result.andThen_ok]
 rw [Sem.run_bind]
 unfold fieldPlace
 rw [Sem.run_bind,run_size hi]
 simp only [Result.andThen_ok,Sem.run_ite,if_neg hq,Sem.run_pure]
 rw [add_addr,Nat.add_assoc]
theorem nilck_ok {o:Oper} {x:Operand} {k:V→Bool} (h:un q x (fun a=>nilckV a k)=true) (ho:o.op=.nilCheck x):PopS P q o k:=by
 obtain ⟨dst,op',ty,pos,aft,grd⟩:=o
 simp only at ho;subst ho
 intro φ ρ hh w r R
 obtain ⟨g,hx,hm⟩:=un_true h
 have rv:=r _ _ hx
 refine ⟨g,ρ x,?_,rv,?_⟩
 ·show (match ρ x with | .pointer none | .nilIface | .nilFunc=>_ | .func (.method name) first captured=>_ | x=>pure (.value x):Sem Next).run P w=_
  generalize ρ x=c at rv ⊢
  cases rv <;> first | rfl | exact Bool.noConfusion (show false=true from hm)
 ·generalize ρ x=c at rv
  cases rv <;> first | exact hm | exact Bool.noConfusion (show false=true from hm)
theorem lay_true {φ:Phi}:∀ (l:V) (n i:Nat) (c:Arr) (k:Arr→Bool) (cs:List Value),lay l n i c k=true→RL φ l cs→i+n≤acap c→
  cs.length=n∧∃ c',k c'=true∧acap c'=acap c∧(∀ j,j<acap c→(j<i∨i+n≤j)→aget j c'=aget j c)∧∀ (j:Nat) v,cs[j]?=some v→RV φ (aget (i+j) c') v
 | .x .nil a b,n,i,c,k,cs,h,hr,hle=>by
  cases hr
  cases n with
  | zero=>exact ⟨rfl,c,h,rfl,fun _ _ _=>rfl,fun j v hj=>by simp at hj⟩
  | succ n=>exact Bool.noConfusion (show false=true from h)
 | .x .cons a b,n,i,c,k,cs,h,hr,hle=>by
  cases hr with
  | cons hv hr=>
   rename_i v r
   cases n with
   | zero=>exact Bool.noConfusion (show false=true from h)
   | succ n=>
    obtain ⟨h1,c',h2,h3,h4,h5⟩:=lay_true b n (i+1) (aset i a c) k r h hr (by simp;omega)
    rw [acap_aset] at h3 h4
    refine ⟨by simp [h1],c',h2,h3,fun j hj hj2=>?_,fun j u hu=>?_⟩
    ·rw [h4 j hj (by omega),aget_aset _ _ _ _ hj (by omega),if_neg (by omega)]
    ·cases j with
     | zero=>
      simp at hu;subst hu
      rw [Nat.add_zero,h4 i (by omega) (by omega),aget_aset _ _ _ _ (by omega) (by omega),if_pos rfl];exact hv
     | succ j=>
      have:=h5 j u (by simpa using hu)
      rw [show i+(j+1)=i+1+j from by omega];exact this
 | .w _,_,_,_,_,_,h,_,_=>Bool.noConfusion (show false=true from h)
 | .y _,_,_,_,_,_,h,_,_=>Bool.noConfusion (show false=true from h)
 | .t _,_,_,_,_,_,h,_,_=>Bool.noConfusion (show false=true from h)
 | .s _ _,_,_,_,_,_,h,_,_=>Bool.noConfusion (show false=true from h)
 | .p _ _ _ _,_,_,_,_,_,h,_,_=>Bool.noConfusion (show false=true from h)
 | .sl _ _ _ _ _,_,_,_,_,_,h,_,_=>Bool.noConfusion (show false=true from h)
 | .x (.int _ _) _ _,_,_,_,_,_,h,_,_=>Bool.noConfusion (show false=true from h)
 | .x .pnil _ _,_,_,_,_,_,h,_,_=>Bool.noConfusion (show false=true from h)
 | .x .slnil _ _,_,_,_,_,_,h,_,_=>Bool.noConfusion (show false=true from h)
 | .x .fnil _ _,_,_,_,_,_,h,_,_=>Bool.noConfusion (show false=true from h)
 | .x .inil _ _,_,_,_,_,_,h,_,_=>Bool.noConfusion (show false=true from h)
 | .x .mnil _ _,_,_,_,_,_,h,_,_=>Bool.noConfusion (show false=true from h)
 | .x .undef _ _,_,_,_,_,_,h,_,_=>Bool.noConfusion (show false=true from h)
 | .x .agg _ _,_,_,_,_,_,h,_,_=>Bool.noConfusion (show false=true from h)
 | .x .tup _ _,_,_,_,_,_,h,_,_=>Bool.noConfusion (show false=true from h)
 | .x (.iface _) _ _,_,_,_,_,_,h,_,_=>Bool.noConfusion (show false=true from h)
 | .x (.func _) _ _,_,_,_,_,_,h,_,_=>Bool.noConfusion (show false=true from h)
 | .x (.map _) _ _,_,_,_,_,_,h,_,_=>Bool.noConfusion (show false=true from h)
 | .x .osl _ _,_,_,_,_,_,h,_,_=>Bool.noConfusion (show false=true from h)
 | .x .nn _ _,_,_,_,_,_,h,_,_=>Bool.noConfusion (show false=true from h)
 | .x .any _ _,_,_,_,_,_,h,_,_=>Bool.noConfusion (show false=true from h)
theorem oneV_ok {φ:Phi} {v:V} {c:Value} (h:oneV v=true) (r:RV φ v c):c.oneCell'=true∧c.cells=#[c]:=by
 cases r <;> first | exact ⟨rfl,rfl⟩ | exact Bool.noConfusion (show false=true from h)
theorem layV_true {φ:Phi} {one:Bool} {v:V} {n i:Nat} {c:Arr} {k:Arr→Bool} {u:Value} (h:layV one v n i c k=true) (r:RV φ v u) (hle:i+n≤acap c) (hn:1≤n∨one=false) :
  u.cells.size=n∧(∀ x,x∈u.cells.toList→x.oneCell'=true)∧∃ c',k c'=true∧acap c'=acap c∧(∀ j,j<acap c→(j<i∨i+n≤j)→aget j c'=aget j c)∧∀ (j:Nat) x,u.cells.toList[j]?=some x→RV φ (aget (i+j) c') x:=by
 cases one with
 | true=>
  obtain ⟨h1,h2⟩:=both_true (show both (Nat.beq n 1) (both (oneV v) (k (aset i v c)))=true from h)
  obtain ⟨h3,h4⟩:=both_true h2
  obtain rfl:=beq_true h1
  obtain ⟨o1,o2⟩:=oneV_ok h3 r
  rw [o2]
  refine ⟨rfl,by simpa using o1,_,h4,acap_aset _ _ _,fun j hj hj2=>?_,fun j x hx=>?_⟩
  ·rw [aget_aset _ _ _ _ hj (by omega),if_neg (by omega)]
  ·cases j with
   | zero=>simp at hx;subst hx;rw [Nat.add_zero,aget_aset _ _ _ _ (by omega) (by omega),if_pos rfl];exact r
   | succ j=>simp at hx
 | false=>
  obtain ⟨l,b,rfl,h2⟩:=onAgg_true (show onAgg v (fun l=>lay l n i c k)=true from h)
  cases r with
  | agg hl ho=>
   rename_i cs
   obtain ⟨h3,c',h4,h5,h6,h7⟩:=lay_true l n i c k cs h2 hl hle
   exact ⟨by simpa [Value.cells] using h3,by simpa [Value.cells] using ho,c',h4,h5,h6,by simpa [Value.cells] using h7⟩
theorem ld_ok {o:Oper} {t:TypeId} {x:Operand} {h:H} {k:V→Bool} (hm:un q x (fun a=>if oneT P t=true then ld1 a h k else lda (sizeT P t) a h k)=true) (ho:o.op=.load t x) (ht:hasT P t=true) {φ:Phi} {ρ:Operand→Value} {w:World} (r:QR φ q ρ) (R:Rel φ h w) :
  ∃ v c,(execOp ρ o).run P w=.ok (.value c) w∧RV φ v c∧k v=true:=by
 obtain ⟨dst,op',ty,pos,aft,grd⟩:=o
 simp only at ho;subst ho
 obtain ⟨d,hd⟩:=hasT_under ht
 obtain ⟨i,hi⟩:=under_info hd
 obtain ⟨g,hx,hm⟩:=un_true hm
 have hrun:∀ (w:World) (L:Addr),ρ x=.pointer (some L)→∀ c,(loadVar t L).run P w=.ok c w→(execOp ρ ⟨dst,.load t x,ty,pos,aft,grd⟩).run P w=.ok (.value c) w:=fun w L e4 c hc=>by
  refine run_value (Instr.loadAt t (ρ x)) _ _ _ ?_
  unfold Instr.loadAt
  rw [e4,Sem.run_bind];exact hc
 have rc:=r _ _ hx
 cases hone:oneT P t with
 | true=>
  rw [hone,if_pos rfl] at hm
  obtain ⟨id,off,lim,ver,e1,h2⟩:=onP_true hm
  obtain ⟨c,size,bver,frz,elem,ex,own,e2,h3⟩:=onBk_true h2
  obtain ⟨h4,h5⟩:=both_true h3
  obtain rfl:=beq_true h4
  rw [e1] at rc
  obtain ⟨l,e3,hl,e4⟩:=rc.inv_p
  obtain ⟨h6,h7⟩:=both_true h5
  have h6:=ble_true h6
  obtain ⟨v,hv,rv,_⟩:=R.cell e3 e2 (i:=off) (by omega)
  refine ⟨_,v,hrun w _ e4 v ?_,rv,h7⟩
  unfold loadVar
  rw [Sem.run_bind,run_isAgg hd,hone]
  show (load _).run P w=_
  rw [run_load,hv]
 | false=>
  rw [hone,if_neg (by simp)] at hm
  obtain ⟨id,off,lim,ver,e1,h2⟩:=onP_true hm
  obtain ⟨c,size,bver,frz,elem,ex,own,e2,h3⟩:=onBk_true h2
  obtain ⟨h4,h5⟩:=both_true h3
  obtain rfl:=beq_true h4
  rw [e1] at rc
  obtain ⟨l,e3,hl,e4⟩:=rc.inv_p
  obtain ⟨h6,h7⟩:=both_true h5
  have h6:=ble_true h6
  simp only [Nat.add_eq] at h6
  obtain ⟨q,q1,q2,q3,q4⟩:=cells_rel (φ:=φ) (w:=w) (c:=c) (B:=l.B) (o:=l.base) (sizeT P t) off (fun j hj=>by
   rw [Nat.add_assoc];exact R.cell e3 e2 (i:=off+j) (by omega))
  refine ⟨_,.agg ⟨q⟩,hrun w _ e4 _ ?_,.agg q2 q3,h7⟩
  unfold loadVar
  rw [Sem.run_bind,run_isAgg hd,hone]
  show (do pure (.agg (← loadCells ⟨l.B,l.base+off,none⟩ (← sizeOf t))):Sem Value).run P w=_
  rw [Sem.run_bind,run_size hi]
  simp only [Result.andThen_ok]
  rw [Sem.run_bind,← q1,run_loadCells_list w ⟨l.B,l.base+off,none⟩ q (fun j v hj=>by rw [add_addr];exact q4 j v hj)]
  rfl
def FPost (k:KV) (φ:Phi) (h:H) (w:World) (c:Value) (w':World):Prop:=∃ v h' φ',k v h'=true∧RV φ' v c∧Rel φ' h' w'∧Ext φ h w φ' h' w'
theorem st_ok {o:Oper} {t:TypeId} {x y:Operand} {h:H} {k:KV} (hm:bi q x y (fun a b=>st (oneT P t) (sizeT P t) a b h k)=true) (ho:o.op=.store t x y) (ht:hasT P t=true) {φ:Phi} {ρ:Operand→Value} {w:World} (r:QR φ q ρ) (R:Rel φ h w) :
  OpRun P (execOp ρ o) w (FPost k φ h w):=by
 obtain ⟨dst,op',ty,pos,aft,grd⟩:=o
 simp only at ho;subst ho
 obtain ⟨g,g',hx,hy,hm⟩:=bi_true hm
 obtain ⟨id,off,lim,ver,e1,h2⟩:=onP_true hm
 obtain ⟨c,size,bver,frz,elem,ex,own,e2,h3⟩:=onBk_true h2
 obtain ⟨hown,h4⟩:=both_true h3
 obtain ⟨h5,h6⟩:=both_true h4
 obtain ⟨h7,h8⟩:=both_true h6
 obtain ⟨h9,h10⟩:=both_true h8
 obtain rfl:=beq_true h5
 have h7:=ble_true h7;have h9:=ble_true h9
 simp only [Nat.add_eq] at h7
 have rc:=r _ _ hx
 rw [e1] at rc
 obtain ⟨l,e3,hl,e4⟩:=rc.inv_p
 obtain ⟨d,hd⟩:=hasT_under ht
 obtain ⟨i,hi⟩:=under_info hd
 have ry:=r _ _ hy
 have hid:=R.lt e3
 obtain ⟨l',cs,fr,e3',b1,b2,b3,b4,b5,b6,b7,b8,b9⟩:=R.bk e3 e2
 rw [e3] at e3';cases e3'
 obtain ⟨s1,s2,c',s3,s4,s5,s6⟩:=layV_true h10 ry (by omega) (by
  cases hone:oneT P t with
  | false=>exact .inr rfl
  | true=>
   left
   rw [hone] at h10
   have:=(both_true (show both (Nat.beq (sizeT P t) 1) _=true from h10)).1
   have:=beq_true this;omega)
 have hlen:(ρ y).cells.toList.length=sizeT P t:=by simpa using s1
 obtain ⟨w',cs',r1,r2,r3,r4,r5,r6,r7,r8,r9⟩:=storeCells_run (P:=P) (ρ y).cells.toList 0 (l.base+off) w cs b2 s2 (by omega) (fun j hj=>by
  have:=b8 hown (off+j) (by omega) (by omega)
  rw [show l.base+off+0+j=l.base+(off+j) from by omega];exact this)
 have hb:BlkOk φ w' id (.bk c' size ver frz elem ex own):=by
  refine ⟨l,cs',fr,e3,b1,r2,by rw [r3];exact b3,by rw [r3];exact b4,by rw [s4];exact b5,fun j hj=>?_,b7,fun q u v z=>b8 q u v (by omega),fun q=>by rw [r3];exact b9 q⟩
  rw [r4]
  by_cases hjj:off≤j∧j<off+sizeT P t
  ·rw [if_pos (by omega)]
   have hx2:(ρ y).cells.toList[l.base+j-(l.base+off+0)]?=some ((ρ y).cells.toList[j-off]'(by omega)):=by
    rw [show l.base+j-(l.base+off+0)=j-off from by omega];exact List.getElem?_eq_getElem _
   rw [hx2]
   refine ⟨_,rfl,?_,s2 _ (List.getElem_mem _)⟩
   have:=s6 (j-off) _ (List.getElem?_eq_getElem (by omega))
   rw [show off+(j-off)=j from by omega] at this;exact this
  ·rw [if_neg (by omega)]
   obtain ⟨v,v1,v2,v3⟩:=b6 j hj
   refine ⟨v,v1,?_,v3⟩
   rw [s5 j (by omega) (by omega)];exact v2
 have hOwn:Own φ h.tr l.B:=⟨id,l,hid,by rw [e2];exact hown,by rw [e2];exact e3,rfl⟩
 have R':=R.put (φ':=φ) (w':=w') (id:=id) (nx:=h.next) (b:=.bk c' size ver frz elem ex own) (T:=h.tr) (l:=l) (R.dom _ _ _ e3).1 (Nat.le_refl _) R.next (fun _ _ _=>.inl rfl) φ.le_refl (fun _ _ _ q _=>q)
  (fun v m q=>by rw [r5];exact (R.dom _ _ _ q).2) (by omega) (fun B _ hB=>r9 B hB) hb e3
  (fun j m hj hne hnb hjm=>fun q=>R.apart id j hid hj (Ne.symm hne) (by rw [e2];exact hown) hnb l m (by rw [e2];exact e3) hjm q.symm)
 have X:=Ext.put (h:=h) (φ:=φ) (φ':=φ) (w:=w) (w':=w') (id:=id) (n0:=h.next) (nx:=h.next) (b:=.bk c' size ver frz elem ex own) (T:=h.tr) (l:=l) hid (fun _ _ _=>.inl rfl) φ.le_refl (fun _ _ _ q _=>q) (by omega) r6 r7 r8 R.next (Nat.le_refl _) (.inr (by rw [e2];simp)) (fun B _ hB=>r9 B hB) e3 (.inl hOwn)
 have hrun:(execOp ρ ⟨dst,.store t x y,ty,pos,aft,grd⟩).run P w=.ok .skip w':=by
  show (do Instr.storeAt t (ρ x) (ρ y);pure .skip:Sem Next).run P w=_
  rw [Sem.run_bind]
  unfold Instr.storeAt
  rw [e4,Sem.run_bind]
  show ((storeVar t ⟨l.B,l.base+off,none⟩ (ρ y)).run P w).andThen _=_
  unfold storeVar
  rw [Sem.run_bind,run_size hi]
  simp only [Result.andThen_ok]
  rw [if_neg (by rw [s1];simp)]
  rw [r1];rfl
 exact .inr (.inl ⟨w',hrun,V.u,_,φ,s3,.undef,R',X⟩)
end Go.Bvm
set_option linter.unusedVariables false
namespace Go.Bvm
variable {P:Program} {G:Nat→Bool} {N:Fr} {q:Operand→Option V}
def Phi.add (φ:Phi) (id v:Nat) (l:Loc):Phi:=fun i u=>if i=id∧u=v then some l else φ i u
theorem Phi.add_same (φ:Phi) (id v:Nat) (l:Loc):φ.add id v l id v=some l:=by simp [Phi.add]
theorem Phi.add_other (φ:Phi) {id v i u:Nat} (l:Loc) (h:¬ (i=id∧u=v)):φ.add id v l i u=φ i u:=by simp only [Phi.add];rw [if_neg h]
theorem Phi.le_add (φ:Phi) (id v:Nat) (l:Loc) (h:φ id v=none):φ.le (φ.add id v l):=fun i u m e=>by
 by_cases k:i=id∧u=v
 ·obtain ⟨rfl,rfl⟩:=k;rw [h] at e;simp at e
 ·rw [Phi.add_other _ _ k];exact e
theorem Rel.new {φ:Phi} {h:H} {w:World} (R:Rel φ h w) {id nx:Nat} (hid:id<nx) (hnx:h.next≤nx) (hnext:0≤nx) (hnone:∀ v,φ id v=none) {T:T6} (hT:∀ i,0≤i→hget i T=hget i h.tr∨hget i T=.nb) {c:Arr} {n frz elem:Nat} {ex:Bool} {cs:Array Value} {fr:Nat×Nat} {base:Nat} {B:Nat} {w':World}
  (hcap:n≤acap c) (hn:base+n≤cs.size) (hc:∀ i,i<n→∃ v,cs[base+i]?=some v∧RV φ (aget i c) v∧v.oneCell'=true) (hex:ex=true→base=0∧n=cs.size)
  (hfr:∀ i,frz≤i→base+i<cs.size→¬ (fr.1≤base+i∧base+i<fr.2)) (hB:w'.heap[B]?=some (.cells cs elem fr)) (hsz:w.heap.size≤w'.heap.size) (hheap:∀ k,k<w.heap.size→k≠B→w'.heap[k]?=w.heap[k]?)
  (hos:w'.os=w.os) (htp:w'.tape=w.tape) (hou:w'.output=w.output) (hown:Own φ h.tr B∧(∀ j m,0≤j→hget j T≠.nb→φ j (verOf (hget j T))=some m→m.B≠B)∨w.heap.size≤B) :
  Rel (φ.add id 0 ⟨B,base,n,cs.size⟩) ⟨nx,hset id (.bk c n 0 frz elem ex true) T⟩ w'∧∀ n0,n0≤id→Ext φ ⟨n0,h.tr⟩ w (φ.add id 0 ⟨B,base,n,cs.size⟩) ⟨nx,hset id (.bk c n 0 frz elem ex true) T⟩ w':=by
 have hle:=φ.le_add id 0 ⟨B,base,n,cs.size⟩ (hnone 0)
 have hold:∀ i v m,φ.add id 0 ⟨B,base,n,cs.size⟩ i v=some m→i≠id→φ i v=some m:=fun i v m e k=>by
  rw [Phi.add_other _ _ (fun q=>k q.1)] at e;exact e
 have hBlt:B<w'.heap.size:=by
  by_cases k:B<w'.heap.size
  ·exact k
  ·rw [Array.getElem?_eq_none (by omega)] at hB;simp at hB
 have hl:φ.add id 0 ⟨B,base,n,cs.size⟩ id (verOf (.bk c n 0 frz elem ex true))=some ⟨B,base,n,cs.size⟩:=Phi.add_same _ _ _ _
 have hb:BlkOk (φ.add id 0 ⟨B,base,n,cs.size⟩) w' id (.bk c n 0 frz elem ex true):=
  ⟨_,cs,fr,Phi.add_same _ _ _ _,rfl,hB,rfl,hn,hcap,fun i hi=>let ⟨v,a,b,d⟩:=hc i hi;⟨v,a,b.mono hle,d⟩,fun v hv=>by rw [Phi.add_other _ _ (by omega)];exact hnone v,fun _=>hfr,hex⟩
 refine ⟨R.put (id:=id) (nx:=nx) (l:=⟨B,base,n,cs.size⟩) hid hnx hnext (fun i hi _=>hT i hi) hle hold ?_ hsz hheap hb hl ?_,fun n0 hn0=>Ext.put (h:=h) (id:=id) (l:=⟨B,base,n,cs.size⟩) (by omega) (fun i hi _=>hT i hi) hle hold hsz hos htp hou (by omega) (by omega) (.inl hn0) hheap hl ?_⟩
 ·intro v m e
  by_cases k:v=0
  ·subst k;rw [Phi.add_same] at e;cases e;exact ⟨hBlt,hn⟩
  ·rw [Phi.add_other _ _ (by omega),hnone] at e;simp at e
 ·intro j m hj hne hnb hm
  rcases hown with ⟨_,k⟩ | k
  ·exact k j m hj hnb hm
  ·have:=(R.dom _ _ _ hm).2.1
   show m.B≠B
   omega
 ·rcases hown with ⟨k,_⟩ | k
  ·exact .inl k
  ·exact .inr k
theorem Rel.fresh {φ:Phi} {h:H} {w:World} (R:Rel φ h w):∀ v,φ h.next v=none:=fun v=>by
 cases e:φ h.next v with
 | none=>rfl
 | some l=>have:=(R.dom _ _ _ e).1;omega
theorem push_old (w:World) (o:Obj) (k:Nat) (h:k<w.heap.size):(w.alloc o).heap[k]?=w.heap[k]?:=Go.RowKit.Below.heap_alloc w o k h
theorem push_new (w:World) (o:Obj):(w.alloc o).heap[w.heap.size]?=some o:=by simp [World.alloc,-World.alloc_eq]
def APost (k:KV) (φ:Phi) (id:Nat) (h:H) (w:World) (c:Value) (w':World):Prop:=∃ v h' φ',k v h'=true∧RV φ' v c∧Rel φ' h' w'∧(∀ n0,n0≤id→Ext φ ⟨n0,h.tr⟩ w φ' h' w')∧∀ i u,i≠id→φ' i u=φ i u
def AopS (P:Program) (q:Operand→Option V) (o:Oper) (id:Nat) (h:H) (k:KV):Prop:=∀ φ (ρ:Operand→Value) w,QR φ q ρ→Rel φ h w→id<h.next→(∀ v,φ id v=none)→∃ c w',(execOp ρ o).run P w=.ok (.value c) w'∧APost k φ id h w c w'
theorem new_ok {o:Oper} {t:TypeId} {id:Nat} {h:H} {k:KV} {y:V} {u:(Operand→Value)→Value} (hm:newA id (oneT P t) (sizeT P t) t y h k=true) (hu:∀ φ ρ,QR φ q ρ→RV φ y (u ρ)) (ho:∀ (ρ:Operand→Value) (w:World),(execOp ρ o).run P w=.ok (.value (.pointer (some ⟨w.heap.size,0,none⟩))) (w.alloc (.cells (u ρ).cells t))) :
  AopS P q o id h k:=by
  intro φ ρ w r R hid hnone
  obtain ⟨h1,h2⟩:=both_true hm
  obtain ⟨h3,h6⟩:=both_true h2
  have h1:=ble_true h1;have h3:=ble_true h3
  obtain ⟨s1,s2,c',s3,s4,s5,s6⟩:=layV_true h6 (hu φ ρ r) (by rw [Nat.zero_add];exact acap_fresh _ h3) (.inl h1)
  have hlen:(u ρ).cells.size=sizeT P t:=s1
  obtain ⟨R',X⟩:=R.new hid (Nat.le_refl _) R.next hnone (T:=h.tr) (c:=c') (n:=sizeT P t) (frz:=0) (elem:=t) (ex:=true) (cs:=(u ρ).cells) (fr:=(0,0)) (base:=0) (B:=w.heap.size) (w':=w.alloc (.cells (u ρ).cells t)) (fun _ _=>.inl rfl)
   (by rw [s4];exact acap_fresh _ h3) (by omega) (fun i hi=>by
    have hx:(u ρ).cells.toList[i]?=some ((u ρ).cells.toList[i]'(by simpa [hlen] using hi)):=List.getElem?_eq_getElem _
    refine ⟨(u ρ).cells.toList[i]'(by simpa [hlen] using hi),by rw [Nat.zero_add];rw [← Array.getElem?_toList];exact hx,?_,s2 _ (List.getElem_mem _)⟩
    have:=s6 i _ hx
    rw [Nat.zero_add] at this;exact this) (fun _=>⟨rfl,hlen.symm⟩) (fun i _ _=>by simp) (push_new _ _) (by simp) (fun k hk _=>push_old _ _ _ hk) rfl rfl rfl (.inr (Nat.le_refl _))
  refine ⟨_,_,ho ρ w,_,_,_,s3,?_,R',X,fun i v hi=>Phi.add_other _ _ (fun z=>hi z.1)⟩
  have:=RV.p (φ:=φ.add id 0 ⟨w.heap.size,0,sizeT P t,(u ρ).cells.size⟩) (off:=0) (lim:=sizeT P t) (Phi.add_same _ _ _ _) (Nat.le_refl _)
  exact this
theorem box_ok {o:Oper} {t:TypeId} {x:Operand} {id:Nat} {h:H} {k:KV} (hm:un q x (fun a=>newA id (oneT P t) (sizeT P t) t a h k)=true) (ho:o.op=.box t x):AopS P q o id h k:=by
 obtain ⟨dst,op',ty,pos,aft,grd⟩:=o
 simp only at ho;subst ho
 obtain ⟨g,hx,hm⟩:=un_true hm
 exact new_ok (u:=fun ρ=>ρ x) hm (fun φ ρ r=>r _ _ hx) fun ρ w=>run_value (Instr.box t (ρ x)) _ _ _ rfl
theorem alloc_ok {o:Oper} {t:TypeId} {i:TypeInfo} {z:Value} {v:V} {id:Nat} {h:H} {k:KV} (hm:newA id (oneT P t) (sizeT P t) t v h k=true) (hi:P.info? t=some i) (hz:i.zero=some z) (hv:absV z=some v) (ho:o.op=.alloc t):AopS P q o id h k:=by
 obtain ⟨dst,op',ty,pos,aft,grd⟩:=o
 simp only at ho;subst ho
 refine new_ok (u:=fun _=>z) hm (fun φ ρ r=>absV_ok φ z v hv) fun ρ w=>run_value (Instr.alloc t true (.tuple #[])) _ _ _ ?_
 unfold Instr.alloc zeroValue
 rw [Sem.run_bind,Sem.run_bind,run_info hi]
 simp only [Result.andThen_ok,hz]
 rfl
theorem iad_fun {t e:TypeId} {i:TypeInfo} (ht:P.underlying t=some (.slice e)) (hi:P.info? e=some i):Fun2 P (iadV (sizeT P e)) (fun a b=>Instr.indexAt t a b):=by
 intro φ x y k h c d hc hd w
 rcases onSl_true h with ⟨a,b,rfl,h2⟩ | ⟨id,off,len,ver,es,rfl,h2⟩
 ·simp at h2
 ·obtain ⟨n,rfl,h3⟩:=onW_true h2
  obtain ⟨h4,h5⟩:=both_true h3
  obtain ⟨h6,h7⟩:=both_true h5
  obtain ⟨h8,hk⟩:=both_true h7
  obtain rfl:=beq_true h4
  have h6:=ble_true h6;have h8:=ble_true h8
  clear h h2 h3 h4 h5 h7
  obtain ⟨l,o,cap,e1,e2,e3,e4,e5,rfl⟩:=hc.inv_sl
  obtain ⟨hn,rfl⟩:=hd.inv_w
  obtain ⟨m,hm⟩ : ∃ m,m=n-bias:=⟨_,rfl⟩
  rw [← hm] at hk
  have hmn:(n:Int)-9223372036854775808=(m:Int):=by unfold bias at hm h6;omega
  have hlt:m<len:=by unfold bias at hm h6 h8;omega
  clear hm h6 h8 hn
  rw [hmn]
  have he:=e4 (by omega)
  subst he
  refine ⟨_,.pointer (some ⟨l.B,l.base+(off+m*sizeT P e),none⟩),?_,.p e1 e2,hk⟩
  show (Instr.indexAt t (.slice (some ⟨l.B,l.base+off,none⟩) len cap) (.int .i64 (m:Int))).run P w=_
  unfold Instr.indexAt
  rw [Sem.run_bind]
  show ((pure (IntKind.i64,(m:Int)):Sem _).run P w).andThen _=_
  rw [Sem.run_pure]
  simp only [Result.andThen_ok]
  simp only [Sem.run_bind,run_under ht,Result.andThen_ok,Sem.run_pure]
  rw [if_pos (by omega)]
  simp only [Sem.run_bind,run_size hi,Result.andThen_ok,Sem.run_pure,Int.toNat_natCast,add_addr]
  rw [Nat.add_assoc]
theorem iaa_fun {t e:TypeId} {n:Nat} {i:TypeInfo} (ht:P.underlying t=some (.array n e)) (hi:P.info? e=some i):Fun2 P (iaaV (sizeT P e) n) (fun a b=>Instr.indexAt t a b):=by
 intro φ x y k h c d hc hd w
 obtain ⟨id,off,lim,ver,rfl,h2⟩:=onP_true h
 obtain ⟨q,rfl,h3⟩:=onW_true h2
 obtain ⟨h6,h7⟩:=both_true h3
 obtain ⟨h8,hk⟩:=both_true h7
 have h6:=ble_true h6;have h8:=ble_true h8
 clear h h2 h3 h7
 obtain ⟨l,e1,e2,rfl⟩:=hc.inv_p
 obtain ⟨hn,rfl⟩:=hd.inv_w
 obtain ⟨m,hm⟩ : ∃ m,m=q-bias:=⟨_,rfl⟩
 rw [← hm] at hk
 have hmn:(q:Int)-9223372036854775808=(m:Int):=by unfold bias at hm h6;omega
 have hlt:m<n:=by unfold bias at hm h6 h8;omega
 clear hm h6 h8 hn
 rw [hmn]
 refine ⟨_,.pointer (some ⟨l.B,l.base+(off+m*sizeT P e),none⟩),?_,.p e1 e2,hk⟩
 show (Instr.indexAt t (.pointer (some ⟨l.B,l.base+off,none⟩)) (.int .i64 (m:Int))).run P w=_
 unfold Instr.indexAt
 rw [Sem.run_bind]
 show ((pure (IntKind.i64,(m:Int)):Sem _).run P w).andThen _=_
 rw [Sem.run_pure]
 simp only [Result.andThen_ok]
 simp only [Sem.run_bind,run_under ht,Result.andThen_ok,Sem.run_pure,Instr.sureAddr]
 rw [if_pos (by omega)]
 simp only [Sem.run_bind,run_size hi,Result.andThen_ok,Sem.run_pure,Int.toNat_natCast,add_addr]
 rw [Nat.add_assoc]
theorem RV.nat {φ:Phi} {m:Nat} (h:m<9223372036854775808):RV φ (.w (m+bias)) (goInt m):=by
 have:=RV.w (φ:=φ) (n:=m+bias) (by unfold bias;omega)
 rw [show ((m+bias:Nat):Int)-9223372036854775808=(m:Int) from by unfold bias;omega] at this
 exact this
theorem lenS_fun {ts:Array TypeId} {ty t:TypeId} (hts:ts[0]?=some t) (ht:P.underlying t=some .string):Fun1 P lenS (fun v=>Builtin.len_ ts ty #[v]):=by
 intro φ x k h c hc w
 obtain ⟨l,n,rfl,h2⟩:=onS_true h
 obtain ⟨h3,hk⟩:=both_true h2
 have h3:=ble_true h3
 clear h h2
 obtain ⟨s,rfl,rfl,_⟩:=hc.inv_s
 refine ⟨_,goInt s.size,?_,RV.nat (by omega),hk⟩
 show (Builtin.len_ ts ty #[.string s]).run P w=_
 unfold Builtin.len_
 simp only [hts]
 show ((underlying t).bind _).run P w=_
 rw [Sem.run_bind',run_under ht];rfl
theorem capL_fun {ty t e:TypeId} (ht:P.underlying t=some (.slice e)):Fun1 P capL (fun v=>Builtin.cap_ #[t] ty #[v]):=by
 intro φ x k h c hc w
 rcases onSl_true h with ⟨a,b,rfl,hk⟩ | ⟨_,_,_,_,_,_,h2⟩
 ·obtain rfl:=hc.inv_slnil
  refine ⟨_,goInt 0,by simp [Builtin.cap_,run_under ht],?_,hk⟩
  have:=RV.nat (φ:=φ) (m:=0) (by omega)
  rw [Nat.zero_add] at this;exact this
 ·simp at h2
theorem copD_true {φ:Phi} {x:V} {c:Value} {k:V→Bool} (h:copD x k=true) (hc:RV φ x c):(∃ A n m,c=.slice A n m)∧k (.w bias)=true:=by
 rcases onSl_true h with ⟨a,b,rfl,hk⟩ | ⟨_,_,_,_,_,rfl,hk⟩
 ·obtain rfl:=hc.inv_slnil;exact ⟨⟨_,_,_,rfl⟩,hk⟩
 ·obtain ⟨_,_,_,_,_,_,_,_,rfl⟩:=hc.inv_sl;exact ⟨⟨_,_,_,rfl⟩,hk⟩
theorem copL_fun {ty t u e:TypeId} (ht:P.underlying t=some (.slice e)) (hs:(P.info? e).map (·.size)=some 1):Fun2 P copL (fun x y=>Builtin.copy_ #[t,u] ty #[x,y]):=by
 intro φ x y k h c d hc hd w
 have key:∀ {A n m B p},c=.slice A n m→d=.slice B 0 p→k (.w bias)=true→∃ v r,(Builtin.copy_ #[t,u] ty #[c,d]).run P w=.ok r w∧RV φ v r∧k v=true:=by
  rintro A n m B p rfl rfl hk
  refine ⟨_,goInt 0,run_copy_none w t u ty e A B n m 0 p ht hs (Nat.min_eq_left (Nat.zero_le _)),?_,hk⟩
  have:=RV.nat (φ:=φ) (m:=0) (by omega)
  rw [Nat.zero_add] at this;exact this
 rcases onSl_true h with ⟨a,b,rfl,hk⟩ | ⟨_,_,_,_,_,rfl,hk⟩
 ·obtain rfl:=hd.inv_slnil
  obtain ⟨⟨_,_,_,e1⟩,h2⟩:=copD_true hk hc
  exact key e1 rfl h2
 ·obtain ⟨h0,hk⟩:=both_true hk
  obtain rfl:=beq_true h0
  obtain ⟨_,_,_,_,_,_,_,_,rfl⟩:=hd.inv_sl
  obtain ⟨⟨_,_,_,e1⟩,h2⟩:=copD_true hk hc
  exact key e1 rfl h2
theorem lenL_fun {ts:Array TypeId} {ty t e:TypeId} (hts:ts[0]?=some t) (ht:P.underlying t=some (.slice e)):Fun1 P lenL (fun v=>Builtin.len_ ts ty #[v]):=by
 intro φ x k h c hc w
 cases hos:vtagOS x with
 | true=>
  unfold lenL at h
  rw [hos,bs_true] at h
  rw [vtagOS_true hos] at hc
  cases hc with
  | osl=>
   rename_i A len cap
   refine ⟨_,goInt len,?_,.nn (by omega),h⟩
   show (Builtin.len_ ts ty #[.slice A len cap]).run P w=_
   unfold Builtin.len_
   simp only [hts]
   show ((underlying t).bind _).run P w=_
   rw [Sem.run_bind',run_under ht];rfl
 | false=>
 unfold lenL at h
 rw [hos,bs_false] at h
 rcases onSl_true h with ⟨a,b,rfl,hk⟩ | ⟨id,off,len,ver,es,rfl,h2⟩
 ·cases hc
  refine ⟨_,goInt 0,?_,?_,hk⟩
  ·show (Builtin.len_ ts ty #[.slice none 0 0]).run P w=_
   unfold Builtin.len_
   simp only [hts]
   show ((underlying t).bind _).run P w=_
   rw [Sem.run_bind',run_under ht];rfl
  ·have:=RV.nat (φ:=φ) (m:=0) (by omega)
   rw [Nat.zero_add] at this;exact this
 ·obtain ⟨h3,hk⟩:=both_true h2
  have h3:=ble_true h3
  clear h h2
  obtain ⟨l,o,cap,e1,e2,e3,e4,e5,rfl⟩:=hc.inv_sl
  refine ⟨_,goInt len,?_,RV.nat (by omega),hk⟩
  show (Builtin.len_ ts ty #[.slice (some o) len cap]).run P w=_
  unfold Builtin.len_
  simp only [hts]
  show ((underlying t).bind _).run P w=_
  rw [Sem.run_bind',run_under ht];rfl
theorem bnd_true {φ:Phi} {x:Option V} {d:Nat} {k:Nat→Bool} (h:bnd x d k=true) {y:Option Value} (r:(x=none∧y=none)∨∃ v c,x=some v∧y=some c∧RV φ v c):∃ m,k m=true∧(y=none∧m=d∨y=some (.int .i64 (m:Int))):=by
 rcases r with ⟨rfl,rfl⟩ | ⟨v,c,rfl,rfl,rv⟩
 ·exact ⟨d,h,.inl ⟨rfl,rfl⟩⟩
 ·obtain ⟨i,rfl,h2⟩:=onW_true (show onW v _=true from h)
  obtain ⟨h3,h4⟩:=both_true h2
  have h3:=ble_true h3
  obtain ⟨_,rfl⟩:=rv.inv_w
  refine ⟨_,h4,.inr ?_⟩
  simp only [Nat.sub_eq]
  unfold bias at h3 ⊢
  rw [show (i:Int)-9223372036854775808=((i-9223372036854775808:Nat):Int) from by omega]
theorem bdo_true {φ:Phi} {ρ:Operand→Value} (r:QR φ q ρ) {x:Option Operand} {f:Option V→Bool} (h:bdo q x f=true):∃ l,f l=true∧((l=none∧x.map ρ=none)∨∃ v c,l=some v∧x.map ρ=some c∧RV φ v c):=by
 unfold bdo at h
 split at h
 ·exact ⟨none,h,.inl ⟨rfl,rfl⟩⟩
 ·split at h
  ·exact ⟨_,h,.inr ⟨_,_,rfl,rfl,r _ _ ‹_›⟩⟩
  ·simp at h
theorem sliceBounds_run {isSlice:Bool} {len cap:Nat} {lo hi:Option Value} {a b:Nat} (hb:hi=none∧b=len∨hi=some (.int .i64 (b:Int))) (ha:lo=none∧a=0∨lo=some (.int .i64 (a:Int))) (h1:b≤cap) (h2:a≤b) (w:World) :
  (Instr.sliceBounds isSlice len cap lo hi none).run P w=.ok (a,b,cap) w:=by
 unfold Instr.sliceBounds
 rcases hb with ⟨rfl,rfl⟩ | rfl <;> rcases ha with ⟨rfl,rfl⟩ | rfl <;>
  simp [run_sliceBound,h1,h2]
theorem sstr_ok {o:Oper} {t:TypeId} {x:Operand} {lo hi:Option Operand} {k:V→Bool} (hm:bdo q lo (fun l=>bdo q hi fun u=>un q x fun a=>sstr l u a k)=true) (ho:o.op=.slice t x lo hi none) (ht:P.underlying t=some .string):PopS P q o k:=by
 obtain ⟨dst,op',ty,pos,aft,grd⟩:=o
 simp only at ho;subst ho
 intro φ ρ hh w r R
 obtain ⟨l,hm,hlo⟩:=bdo_true r hm
 obtain ⟨u,hm,hhi⟩:=bdo_true r hm
 obtain ⟨g,hx,hm⟩:=un_true hm
 obtain ⟨len,n,e1,h2⟩:=onS_true hm
 obtain ⟨b,h3,hb⟩:=bnd_true h2 hhi
 obtain ⟨h4,h5⟩:=both_true h3
 obtain ⟨c,h6,hc⟩:=bnd_true h5 hlo
 obtain ⟨h7,h8⟩:=both_true h6
 have h4:=ble_true h4;have h7:=ble_true h7
 have rv:=r _ _ hx
 rw [e1] at rv
 obtain ⟨s,e2,rfl,rfl⟩:=rv.inv_s
 refine ⟨_,.string (s.extract c b),?_,?_,h8⟩
 ·refine run_value (Instr.sliceAt t (ρ x) (lo.map ρ) (hi.map ρ) none) _ _ _ ?_
  unfold Instr.sliceAt
  rw [Sem.run_bind,run_under ht]
  simp only [Result.andThen_ok]
  unfold Instr.slice
  rw [Sem.run_bind,run_under ht,e2]
  simp only [Result.andThen_ok]
  show ((Instr.sliceBounds false s.size s.size (lo.map ρ) (hi.map ρ) none).bind _).run P w=_
  rw [Sem.run_bind',sliceBounds_run hb hc h4 h7]
  rfl
 ·have hd:(s.extract c b).data.toList=(s.data.toList.drop c).take (b-c):=by simp [ByteArray.data_extract]
  have hs:(s.extract c b).size=b-c:=by rw [size_data,hd,List.length_take,List.length_drop,← size_data];omega
  refine .s hs ?_
  rw [hd,pack_take,pack_drop]
  show _=(pack s.data.toList) >>> (8*c) % 256 ^ (b-c)
  rw [Nat.shiftRight_eq_div_pow,Nat.pow_mul]
theorem ssli_ok {o:Oper} {t el:TypeId} {i:TypeInfo} {x:Operand} {lo hi:Option Operand} {k:V→Bool} (hm:bdo q lo (fun l=>bdo q hi fun u=>un q x fun a=>ssli (sizeT P el) l u a k)=true) (ho:o.op=.slice t x lo hi none) (ht:P.underlying t=some (.slice el)) (hi':P.info? el=some i):PopS P q o k:=by
 obtain ⟨dst,op',ty,pos,aft,grd⟩:=o
 simp only at ho;subst ho
 intro φ ρ hh w r R
 obtain ⟨l,hm,hlo⟩:=bdo_true r hm
 obtain ⟨u,hm,hhi⟩:=bdo_true r hm
 obtain ⟨g,hx,hm⟩:=un_true hm
 have rv:=r _ _ hx
 have hrun:∀ (A:Option Addr) (len cap b c:Nat),ρ x=.slice A len cap→(hi.map ρ=none∧b=len∨hi.map ρ=some (.int .i64 (b:Int)))→(lo.map ρ=none∧c=0∨lo.map ρ=some (.int .i64 (c:Int)))→b≤cap→c≤b→
   (execOp ρ ⟨dst,.slice t x lo hi none,ty,pos,aft,grd⟩).run P w=.ok (.value (.slice (if cap=c then A else A.map (·.add (c*sizeT P el))) (b-c) (cap-c))) w:=fun A len cap b c e2 hb hc h1 h2=>by
  refine run_value (Instr.sliceAt t (ρ x) (lo.map ρ) (hi.map ρ) none) _ _ _ ?_
  unfold Instr.sliceAt
  rw [Sem.run_bind,run_under ht]
  simp only [Result.andThen_ok]
  unfold Instr.slice
  rw [Sem.run_bind,run_under ht,e2]
  simp only [Result.andThen_ok]
  show ((Instr.sliceBounds true len cap (lo.map ρ) (hi.map ρ) none).bind _).run P w=_
  rw [Sem.run_bind',sliceBounds_run hb hc h1 h2]
  show ((sizeOf el).bind _).run P w=_
  rw [Sem.run_bind',run_size hi']
  rfl
 rcases onSl_true hm with ⟨q1,q2,e1,h2⟩ | ⟨id,off,len,ver,es,e1,h2⟩
 ·obtain ⟨b,h3,hb⟩:=bnd_true h2 hhi
  obtain ⟨h4,h5⟩:=both_true h3
  obtain ⟨c,h6,hc⟩:=bnd_true h5 hlo
  obtain ⟨h7,h8⟩:=both_true h6
  have h4:=ble_true h4;have h7:=ble_true h7
  rw [e1] at rv
  have e2:ρ x=.slice none 0 0:=rv.inv_slnil
  obtain rfl:b=0:=by omega
  obtain rfl:c=0:=by omega
  exact ⟨_,.slice none 0 0,hrun _ _ _ _ _ e2 hb hc (by omega) (by omega),.slnil,h8⟩
 ·obtain ⟨h3,h4⟩:=both_true h2
  obtain rfl:=beq_true h3
  obtain ⟨b,h5,hb⟩:=bnd_true h4 hhi
  obtain ⟨h6,h7⟩:=both_true h5
  obtain ⟨c,h8,hc⟩:=bnd_true h7 hlo
  obtain ⟨h9,h10⟩:=both_true h8
  have h6:=ble_true h6;have h9:=ble_true h9
  rw [e1] at rv
  obtain ⟨L,o,cap,f1,f2,f3,f4,f5,e2⟩:=rv.inv_sl
  refine ⟨_,_,hrun _ _ _ _ _ e2 hb hc (by omega) h9,?_,h10⟩
  have hbc:(b-c)*sizeT P el+c*sizeT P el=b*sizeT P el:=by rw [← Nat.add_mul];congr 1;omega
  have hcc:(cap-c)*sizeT P el+c*sizeT P el=cap*sizeT P el:=by rw [← Nat.add_mul];congr 1;omega
  have hbl:b*sizeT P el≤len*sizeT P el:=Nat.mul_le_mul_right _ h6
  by_cases hcap:cap=c
  ·rw [if_pos hcap]
   exact .sl f1 (by omega) (by omega) (fun k=>by omega) (by omega)
  ·rw [if_neg hcap]
   simp only [Option.map_some,add_addr]
   exact .sl f1 (by omega) (by omega) (fun k=>by rw [f4 (by omega),add_addr,Nat.add_assoc]) (by omega)
theorem sarr_ok {o:Oper} {t el:TypeId} {n:Nat} {i:TypeInfo} {x:Operand} {lo hi:Option Operand} {k:V→Bool} (hm:bdo q lo (fun l=>bdo q hi fun u=>un q x fun a=>sarr (sizeT P el) n l u a k)=true) (ho:o.op=.slice t x lo hi none) (ht:P.underlying t=some (.array n el)) (hi':P.info? el=some i):PopS P q o k:=by
 obtain ⟨dst,op',ty,pos,aft,grd⟩:=o
 simp only at ho;subst ho
 intro φ ρ hh w r R
 obtain ⟨l,hm,hlo⟩:=bdo_true r hm
 obtain ⟨u,hm,hhi⟩:=bdo_true r hm
 obtain ⟨g,hx,hm⟩:=un_true hm
 have rv:=r _ _ hx
 obtain ⟨id,off,lim,ver,e1,h2⟩:=onP_true hm
 obtain ⟨h3,h4⟩:=both_true h2
 have h3:=ble_true h3
 obtain ⟨b,h5,hb⟩:=bnd_true h4 hhi
 obtain ⟨h6,h7⟩:=both_true h5
 obtain ⟨c,h8,hc⟩:=bnd_true h7 hlo
 obtain ⟨h9,h10⟩:=both_true h8
 have h6:=ble_true h6;have h9:=ble_true h9
 rw [e1] at rv
 obtain ⟨L,f1,f2,e2⟩:=rv.inv_p
 have hbc:(b-c)*sizeT P el+c*sizeT P el=b*sizeT P el:=by rw [← Nat.add_mul];congr 1;omega
 have hcc:(n-c)*sizeT P el+c*sizeT P el=n*sizeT P el:=by rw [← Nat.add_mul];congr 1;omega
 have hbl:b*sizeT P el≤n*sizeT P el:=Nat.mul_le_mul_right _ h6
 have g5:=(R.dom _ _ _ f1).2.2
 refine ⟨_,.slice (some (if n=c then ⟨L.B,L.base+off,none⟩ else Addr.add ⟨L.B,L.base+off,none⟩ (c*sizeT P el))) (b-c) (n-c),?_,?_,h10⟩
 ·refine run_value (Instr.sliceAt t (ρ x) (lo.map ρ) (hi.map ρ) none) _ _ _ ?_
  unfold Instr.sliceAt
  rw [Sem.run_bind,run_under ht]
  simp only [Result.andThen_ok]
  rw [e2]
  show ((Instr.sliceBounds false n n (lo.map ρ) (hi.map ρ) none).bind _).run P w=_
  rw [Sem.run_bind',sliceBounds_run hb hc h6 h9]
  show ((sizeOf el).bind _).run P w=_
  rw [Sem.run_bind',run_size hi']
  rfl
 ·by_cases hcap:n=c
  ·rw [if_pos hcap]
   exact .sl f1 (by omega) (by omega) (fun k=>by omega) (by omega)
  ·rw [if_neg hcap,add_addr]
   exact .sl f1 (by omega) (by omega) (fun k=>by rw [Nat.add_assoc]) (by omega)
end Go.Bvm
set_option linter.unusedVariables false
namespace Go.Bvm
variable {P:Program} {G:Nat→Bool} {N:Fr} {q:Operand→Option V}
def Laid (φ:Phi) (src:Nat→Arr→Arr) (cs:List Value):Prop:=∀ j c,j+cs.length≤acap c→acap (src j c)=acap c∧(∀ i,i<acap c→(i<j∨j+cs.length≤i)→aget i (src j c)=aget i c)∧∀ (i:Nat) x,cs[i]?=some x→RV φ (aget (j+i) (src j c)) x
theorem acopy_laid {φ:Phi} (c:Arr):∀ (cs:List Value) (i:Nat),(∀ (j:Nat) x,cs[j]?=some x→RV φ (aget (i+j) c) x)→Laid φ (fun j c'=>acopy c cs.length i j c') cs
 | [],i,_=>fun j c' _=>⟨rfl,fun _ _ _=>rfl,fun i x h=>by simp at h⟩
 | v::r,i,h=>fun j c' hle=>by
  have ih:=acopy_laid c r (i+1) (fun q x hq=>by
   have:=h (q+1) x (by simpa using hq)
   rw [show i+1+q=i+(q+1) from by omega];exact this) (j+1) (aset j (aget i c) c') (by simp at hle ⊢;omega)
  obtain ⟨h1,h2,h3⟩:=ih
  rw [acap_aset] at h1 h2
  simp only [List.length_cons] at hle
  refine ⟨h1,fun q hq hq2=>?_,fun q x hx=>?_⟩
  ·have:=h2 q hq (by simp at hq2;omega)
   refine Eq.trans this ?_
   rw [aget_aset _ _ _ _ hq (by omega),if_neg (by simp at hq2;omega)]
  ·cases q with
   | zero=>
    simp at hx;subst hx
    have:=h2 j (by omega) (by omega)
    rw [Nat.add_zero]
    show RV φ (aget j (acopy c r.length (i+1) (j+1) (aset j (aget i c) c'))) v
    rw [this,aget_aset _ _ _ _ (by omega) (by omega),if_pos rfl]
    have:=h 0 v (by simp)
    simpa using this
   | succ q=>
    have:=h3 q x (by simpa using hx)
    rw [show j+(q+1)=j+1+q from by omega];exact this
theorem abytes_laid {φ:Phi}:∀ (bs:List UInt8),Laid φ (fun j c=>abytes bs.length (pack bs) j c) (bs.map fun b=>.int .u8 (b.toNat:Int))
 | []=>fun j c' _=>⟨rfl,fun _ _ _=>rfl,fun i x h=>by simp at h⟩
 | b::r=>fun j c' hle=>by
  have hb:b.toNat<256:=b.toNat_lt
  have e1:(b.toNat+256*pack r) % 256=b.toNat:=by omega
  have e2:(b.toNat+256*pack r) / 256=pack r:=by omega
  have ih:=abytes_laid (φ:=φ) r (j+1) (aset j (.y b.toNat) c') (by simp at hle ⊢;omega)
  obtain ⟨h1,h2,h3⟩:=ih
  have hstep:abytes (b::r).length (pack (b::r)) j c'=abytes r.length (pack r) (j+1) (aset j (.y b.toNat) c'):=by
   show abytes r.length ((b.toNat+256*pack r) / 256) (j+1) (aset j (.y ((b.toNat+256*pack r) % 256)) c')=_
   rw [e1,e2]
  simp only [hstep]
  rw [acap_aset] at h1 h2
  simp only [List.map_cons,List.length_cons,List.length_map] at hle h2 ⊢
  refine ⟨h1,fun q hq hq2=>?_,fun q x hx=>?_⟩
  ·have:=h2 q hq (by omega)
   refine Eq.trans this ?_
   rw [aget_aset _ _ _ _ hq (by omega),if_neg (by omega)]
  ·cases q with
   | zero=>
    simp at hx;subst hx
    have:=h2 j (by omega) (by omega)
    rw [Nat.add_zero]
    show RV φ (aget j (abytes r.length (pack r) (j+1) (aset j (.y b.toNat) c'))) _
    rw [this,aget_aset _ _ _ _ (by omega) (by omega),if_pos rfl]
    exact .y hb
   | succ q=>
    have:=h3 q x (by simpa using hx)
    rw [show j+(q+1)=j+1+q from by omega];exact this
theorem cellsAt {φ:Phi} {h:H} {w:World} (R:Rel φ h w) {id ver:Nat} {l:Loc} (e:φ id ver=some l) {c:Arr} {size frz elem:Nat} {ex own:Bool} (hb:hget id h.tr=.bk c size ver frz elem ex own) (off n:Nat) (hle:off+n≤l.sz) :
  ∃ q:List Value,q.length=n∧(∀ v,v∈q→v.oneCell'=true)∧(∀ (j:Nat) v,q[j]?=some v→w.cell? ⟨l.B,l.base+off+j,none⟩=some v)∧(∀ (j:Nat) v,q[j]?=some v→RV φ (aget (off+j) c) v):=by
 have hc:∀ j,j<n→∃ v,w.cell? ⟨l.B,l.base+off+j,none⟩=some v∧RV φ (aget (off+j) c) v∧v.oneCell'=true:=fun j hj=>by rw [Nat.add_assoc];exact R.cell e hb (by omega)
 obtain ⟨q,q1,q2,q3,q4⟩:=cells_rel (φ:=φ) (w:=w) (c:=c) (B:=l.B) (o:=l.base) n off hc
 refine ⟨q,q1,q3,q4,fun j v hj=>?_⟩
 have hjn:j<n:=by rw [← q1];exact (List.getElem?_eq_some_iff.1 hj).1
 obtain ⟨u,u1,u2,_⟩:=hc j hjn
 rw [q4 j v hj] at u1;cases u1;exact u2
theorem onSrc_true {φ:Phi} {h:H} {w:World} (R:Rel φ h w) {esz:Nat} {v:V} {u:Value} {k:(n:Nat)→(Nat→Arr→Arr)→Bool} (hm:onSrc esz v h k=true) (r:RV φ v u) :
  ∃ n src cs,k n src=true∧(∀ w',(Builtin.lenOf u).run P w'=.ok n w')∧cs.length=n*esz∧(∀ w',(∀ a,w'.cell? a=w.cell? a)→(Builtin.firstCells esz n u).run P w'=.ok cs.toArray w')∧(∀ x,x∈cs→x.oneCell'=true)∧Laid φ src cs:=by
 cases v <;> try exact Bool.noConfusion (show false=true from hm)
 ·obtain ⟨h1,h2⟩:=both_true hm
  obtain rfl:=beq_true h1
  obtain ⟨s,rfl,rfl,rfl⟩:=r.inv_s
  refine ⟨s.size,_,s.data.toList.map fun b=>.int .u8 (b.toNat:Int),h2,fun w'=>rfl,by rw [List.length_map,← size_data,Nat.mul_one],fun w' _=>?_,by simp [Value.oneCell'],?_⟩
  ·have e:s.extract 0 s.size=s:=by
    apply bytes_ext;simp
   show Result.ok _ w'=_
   rw [e]
   congr 1
   apply Array.ext'
   simp
  ·rw [size_data];exact abytes_laid _
 ·rename_i id off len ver es
  obtain ⟨h1,h2⟩:=both_true hm
  obtain rfl:=beq_true h1
  obtain ⟨c,size,bver,frz,elem,ex,own,e2,h3⟩:=onBk_true h2
  obtain ⟨h4,h5⟩:=both_true h3
  obtain rfl:=beq_true h4
  obtain ⟨l,o,cap,f1,f2,f3,f4,f5,rfl⟩:=r.inv_sl
  obtain ⟨q,q1,q2,q3,q4⟩:=cellsAt R f1 e2 off (len*es) f2
  refine ⟨len,_,q,h5,fun w'=>rfl,q1,fun w' hw=>?_,q2,?_⟩
  ·by_cases hz:len*es=0
   ·obtain rfl:q=[]:=List.eq_nil_of_length_eq_zero (by omega)
    show (loadCells o (len*es)).run P w'=_
    rw [hz];rfl
   ·have ho:o=⟨l.B,l.base+off,none⟩:=f4 (by intro k;rw [k] at f3;simp at f3;rw [f3] at hz;simp at hz)
    refine run_firstCells_some w' es len o len cap q q1 fun j v hj=>?_
    rw [ho,add_addr,hw];exact q3 j v hj
  ·have:=acopy_laid (φ:=φ) c q off q4
   rw [q1] at this;exact this
 ·rename_i g a b
  cases g <;> try exact Bool.noConfusion (show false=true from hm)
  obtain rfl:=r.inv_slnil
  exact ⟨0,_,[],hm,fun w'=>rfl,by simp,fun w' _=>rfl,by simp,fun j c _=>⟨rfl,fun _ _ _=>rfl,fun i x hx=>by simp at hx⟩⟩
theorem run_append_room {t u ty el:TypeId} {i:TypeInfo} {du:TypeDesc} {ts:Array TypeId} (hts:ts[0]?=some t) (htu:ts[1]?=some u) (ht:P.underlying t=some (.slice el)) (hu:P.underlying u=some du) (hdu:du=.string∨∃ e,du=.slice e) (hi:P.info? el=some i)
  (w w':World) (B:Option Addr) (len cap:Nat) (x:Value) (n:Nat) (cs:List Value) (hlen:∀ w',(Builtin.lenOf x).run P w'=.ok n w') (hcs:(Builtin.firstCells i.size n x).run P w=.ok cs.toArray w) (hroom:len+n≤cap)
  (hst:match B with | some a=>(storeCells (a.add (len*i.size)) cs).run P w=.ok () w' | none=>w'=w) :
  (Builtin.append_ ts ty #[.slice B len cap,x]).run P w=.ok (.slice B (len+n) cap) w':=by
 unfold Builtin.append_
 simp only [hts,htu]
 cases B with
 | none=>subst hst;rcases hdu with rfl | ⟨e,rfl⟩ <;> simp [run_under ht,sizeOf,typeInfo,hi,hlen,hroom,hcs,run_under hu]
 | some a=>rcases hdu with rfl | ⟨e,rfl⟩ <;> simp [run_under ht,sizeOf,typeInfo,hi,hlen,hroom,hcs,hst,run_under hu]
theorem run_append_none {t u ty el:TypeId} {i:TypeInfo} {z:Value} {du:TypeDesc} {ts:Array TypeId} (hts:ts[0]?=some t) (htu:ts[1]?=some u) (ht:P.underlying t=some (.slice el)) (hu:P.underlying u=some du) (hdu:du=.string∨∃ e,du=.slice e) (hi:P.info? el=some i) (hz:i.zero=some z)
  (w:World) (B:Option Addr) (len cap:Nat) (x:Value) (n:Nat) (cs olds:List Value) (hlen:∀ w',(Builtin.lenOf x).run P w'=.ok n w') (hcs:(Builtin.firstCells i.size n x).run P w.drew=.ok cs.toArray w.drew) (holds:(Builtin.firstCells i.size len (.slice B len cap)).run P w.drew=.ok olds.toArray w.drew) (hroom:cap<len+n)
  (hfit:(len+n)*i.bytes≤140737488355328) (hlt:len+n≤9223372036854775807) :
  ∃ newCap,len+n≤newCap∧(Builtin.append_ ts ty #[.slice B len cap,x]).run P w=.ok (.slice (some ⟨w.heap.size,0,none⟩) (len+n) newCap) (w.drew.alloc (.cells (olds.toArray++cs.toArray++Builtin.zeroCells z.cells (newCap-(len+n))) el)):=by
 have hn:¬ (len+n≤cap):=by omega
 have h63':¬ (9223372036854775807<((len:Int)+(n:Int))):=by omega
 have h48':¬ (281474976710656<Builtin.nextslicecap (len+n) cap*i.bytes):=by
  have:=growslice_fits hroom hfit;omega
 refine ⟨grownCap w (len+n) cap el,by unfold grownCap;exact Nat.le_add_right _ _,?_⟩
 rcases hdu with rfl | ⟨e,rfl⟩ <;> (unfold Builtin.append_;simp [hts,htu,run_under ht,sizeOf,typeInfo,zeroValue,hi,hz,hlen,hn,h63',h48',Question.forced,hcs,holds,newRow,grownCap,run_under hu];congr 2;apply Array.ext';simp [List.append_assoc])
end Go.Bvm
namespace Go.Bvm
variable {P:Program} {G:Nat→Bool} {N:Fr} {q:Operand→Option V}
theorem args_two {xs:Array Operand} {x y:Operand} (h:xs.toList=[x,y]):xs=#[x,y]:=by
 apply Array.ext';rw [h]
theorem args_one {xs:Array Operand} {x:Operand} (h:xs.toList=[x]):xs=#[x]:=by
 apply Array.ext';rw [h]
theorem app_ok {o:Oper} {ts:Array TypeId} {t u el:TypeId} {du:TypeDesc} {i:TypeInfo} {z:Value} {x y:Operand} {xs:Array Operand} {h:H} {k:KV} (hm:bi q x y (fun a b=>app i.size el a b h k)=true) (ho:o.op=.call ⟨.builtin .append,xs,ts⟩) (hxs:xs.toList=[x,y])
  (hts:ts[0]?=some t) (htu:ts[1]?=some u) (ht:P.underlying t=some (.slice el)) (hu:P.underlying u=some du) (hdu:du=.string∨∃ e,du=.slice e) (hi:P.info? el=some i) (hz:i.zero=some z) (hzs:z.cells.size=i.size) (hby:i.bytes≤4096) {φ:Phi} {ρ:Operand→Value} {w:World} (r:QR φ q ρ) (R:Rel φ h w) :
  OpRun P (execOp ρ o) w (FPost k φ h w):=by
 obtain ⟨dst,op',ty,pos,aft,grd⟩:=o
 simp only at ho;subst ho
 obtain rfl:=args_two hxs
 obtain ⟨g,g',hx,hy,hm⟩:=bi_true hm
 suffices H:∃ v c h' φ' w',(execOp ρ ⟨dst,.call ⟨.builtin .append,#[x,y],ts⟩,ty,pos,aft,grd⟩).run P w=.ok (.value c) w'∧RV φ' v c∧Rel φ' h' w'∧Ext φ h w φ' h' w'∧k v h'=true by
  obtain ⟨v,c,h',φ',w',e1,e2,e3,e4,e5⟩:=H
  exact .inl ⟨c,w',e1,v,h',φ',e5,e2,e3,e4⟩
 obtain ⟨h1,h2⟩:=both_true hm
 have hesz:=ble_true h1
 have rx:=r _ _ hx
 have ry:=r _ _ hy
 obtain ⟨n,src,cs,h3,hlen,hcl,hfc,hone,hlaid⟩:=onSrc_true R h2 ry
 have hex:∀ c w',(Builtin.append_ ts ty #[ρ x,ρ y]).run P w=.ok c w'→(execOp ρ ⟨dst,.call ⟨.builtin .append,#[x,y],ts⟩,ty,pos,aft,grd⟩).run P w=.ok (.value c) w':=fun c w' hc=>
  by simp [execOp,resolve,invoke,builtin,hc]
 by_cases hn0:n=0
 ·subst hn0
  have hcs0:cs=[]:=List.eq_nil_of_length_eq_zero (by omega)
  subst hcs0
  have h4:onSl g (k g h) (fun _ _ _ _ _=>k g h)=true:=h3
  rcases onSl_true h4 with ⟨q1,q2,e1,h5⟩ | ⟨id,off,len,ver,es,e1,h5⟩
  ·rw [e1] at rx
   have e2:=rx.inv_slnil
   refine ⟨_,.slice none 0 0,h,φ,w,hex _ _ ?_,?_,R,.refl _ _ _,h5⟩
   ·rw [e2];exact run_append_room hts htu ht hu hdu hi w w none 0 0 _ 0 [] hlen (hfc w fun _=>rfl) (by omega) rfl
   ·rw [e1];exact .slnil
  ·rw [e1] at rx
   obtain ⟨L,oo,cap,f1,f2,f3,f4,f5,e2⟩:=rx.inv_sl
   refine ⟨_,.slice (some oo) len cap,h,φ,w,hex _ _ ?_,?_,R,.refl _ _ _,h5⟩
   ·rw [e2];exact run_append_room hts htu ht hu hdu hi w w _ len cap _ 0 [] hlen (hfc w fun _=>rfl) (by omega) rfl
   ·rw [e1];exact .sl f1 f2 f3 f4 f5
 ·have hb0:Nat.beq n 0=false:=by rw [← Bool.not_eq_true];intro q;exact hn0 (Nat.eq_of_beq_eq_true q)
  rw [hb0,bs_false] at h3
  have hn1:1≤n:=by omega
  have hnc:n≤cs.length:=by rw [hcl];exact Nat.le_mul_of_pos_right _ hesz
  rcases onSl_true h3 with ⟨q1,q2,e1,h5⟩ | ⟨id,off,len,ver,es,e1,h5⟩
  ·-- a nil slice
   obtain ⟨h6,h7⟩:=both_true h5
   obtain ⟨h8,h9⟩:=both_true h7
   have h6:=ble_true h6;have h8:=ble_true h8
   rw [← hcl] at h6 h9
   rw [e1] at rx
   have e2:=rx.inv_slnil
   have hfit:(0+n)*i.bytes≤140737488355328:=by
    have:n*i.bytes≤17179869184*4096:=Nat.mul_le_mul (by omega) hby
    rw [Nat.zero_add];omega
   obtain ⟨newCap,c1,c2⟩:=run_append_none (ty:=ty) hts htu ht hu hdu hi hz w none 0 0 (ρ y) n cs [] hlen (hfc _ fun _=>rfl) rfl (by omega) hfit (by omega)
   obtain ⟨l1,l2,l3⟩:=hlaid 0 (fresh cs.length) (by rw [Nat.zero_add];exact acap_fresh _ h6)
   have hcsz:(#[]++cs.toArray++Builtin.zeroCells z.cells (newCap-(0+n)):Array Value).size=cs.length+(newCap-n)*i.size:=by
    simp [Builtin.zeroCells,hzs]
   obtain ⟨R',X⟩:=R.new (Nat.lt_succ_self h.next) (Nat.le_succ _) h8 R.fresh (T:=h.tr) (c:=src 0 (fresh cs.length)) (n:=cs.length) (frz:=0) (elem:=el) (ex:=false) (cs:=#[]++cs.toArray++Builtin.zeroCells z.cells (newCap-(0+n))) (fr:=(0,0)) (base:=0) (B:=w.heap.size) (w':=w.drew.alloc (.cells (#[]++cs.toArray++Builtin.zeroCells z.cells (newCap-(0+n))) el)) (fun _ _=>.inl rfl)
    (by rw [l1];exact acap_fresh _ h6) (by rw [hcsz];omega) (fun j hj=>by
     have hx:cs[j]?=some (cs[j]'hj):=List.getElem?_eq_getElem hj
     refine ⟨cs[j]'hj,by rw [Nat.zero_add];simp [Array.getElem?_append,hj],?_,hone _ (List.getElem_mem _)⟩
     have:=l3 j _ hx
     rw [Nat.zero_add] at this;exact this) (fun q=>by simp at q) (fun i _ _=>by simp) (push_new _ _) (by simp) (fun k hk _=>push_old _ _ _ hk) rfl rfl rfl (.inr (Nat.le_refl _))
   refine ⟨_,_,_,_,_,hex _ _ (by rw [e2];exact c2),?_,R',X _ (Nat.le_refl _),h9⟩
   have c1':n≤newCap:=by omega
   rw [show (0+n)=n from Nat.zero_add n]
   refine RV.sl (l:=⟨w.heap.size,0,cs.length,_⟩) (Phi.add_same _ _ _ _) (by show 0+n*i.size≤cs.length;omega) c1' (fun _=>rfl) ?_
   have hcc:n*i.size+(newCap-n)*i.size=newCap*i.size:=by rw [← Nat.add_mul];congr 1;omega
   have hcsz2:=hcsz
   rw [show (0+n)=n from Nat.zero_add n] at hcsz2
   show 0+0+newCap*i.size≤(#[]++cs.toArray++Builtin.zeroCells z.cells (newCap-n):Array Value).size
   rw [hcsz2];omega
  ·obtain ⟨h6,h7⟩:=both_true h5
   obtain rfl:=beq_true h6
   obtain ⟨c,size,bver,frz,el',ex,own,e2,h8⟩:=onBk_true h7
   obtain ⟨hown,h9⟩:=both_true h8
   obtain ⟨h10,h11⟩:=both_true h9
   obtain rfl:=beq_true h10
   obtain ⟨h12,h13⟩:=both_true h11
   obtain ⟨h14,h15⟩:=both_true h12
   obtain rfl:=beq_true h14
   have hfrz:=ble_true h15
   rw [e1] at rx
   obtain ⟨L,oo,cap,f1,f2,f3,f4,f5,e3⟩:=rx.inv_sl
   obtain ⟨L',ccs,fr,f1',b1,b2,b3,b4,b5,b6,b7,b8,b9⟩:=R.bk f1 e2
   rw [f1] at f1';cases f1'
   have hid:=R.lt f1
   have hOwn:Own φ h.tr L.B:=⟨id,L,hid,by rw [e2];exact hown,by rw [e2];exact f1,rfl⟩
   obtain ⟨olds,o1,o2,o3,o4⟩:=cellsAt R f1 e2 off (len*i.size) f2
   have holds:∀ w',(∀ a,w'.cell? a=w.cell? a)→(Builtin.firstCells i.size len (.slice (some oo) len cap)).run P w'=.ok olds.toArray w':=fun w' hw=>by
    by_cases hz0:len*i.size=0
    ·obtain rfl:olds=[]:=List.eq_nil_of_length_eq_zero (by omega)
     show (loadCells oo (len*i.size)).run P w'=_
     rw [hz0];rfl
    ·have ho:oo=⟨L.B,L.base+off,none⟩:=f4 (by intro q;rw [q] at f3;simp at f3;rw [f3] at hz0;simp at hz0)
     refine run_firstCells_some w' i.size len oo len cap olds o1 fun j v hj=>?_
     rw [ho,add_addr,hw];exact o3 j v hj
   have hsum:len*i.size+n*i.size=(len+n)*i.size:=(Nat.add_mul _ _ _).symm
   have hstore:len+n≤cap→∃ w' cs',(storeCells (Addr.add oo (len*i.size)) cs).run P w=.ok () w'∧w'.heap[L.B]?=some (.cells cs' el' fr)∧cs'.size=ccs.size∧
     (∀ q,cs'[q]?=if L.base+off+len*i.size≤q∧q<L.base+off+len*i.size+cs.length then cs[q-(L.base+off+len*i.size)]? else ccs[q]?)∧
     w'.heap.size=w.heap.size∧w'.os=w.os∧w'.tape=w.tape∧w'.output=w.output∧∀ q,q≠L.B→w'.heap[q]?=w.heap[q]?:=fun hroom=>by
    have ho:oo=⟨L.B,L.base+off,none⟩:=f4 (by omega)
    have hcapsz:(len+n)*i.size≤cap*i.size:=Nat.mul_le_mul_right _ hroom
    rw [ho,add_addr]
    obtain ⟨w',cs',s1,s2,s3,s4,s5,s6,s7,s8,s9⟩:=storeCells_run (P:=P) cs 0 (L.base+off+len*i.size) w ccs b2 hone (by omega) (fun j hj=>by
     have:=b8 hown (off+len*i.size+j) (by omega) (by omega)
     rw [show L.base+off+len*i.size+0+j=L.base+(off+len*i.size+j) from by omega];exact this)
    exact ⟨w',cs',s1,s2,s3,fun q=>by rw [s4 q,Nat.add_zero],s5,s6,s7,s8,s9⟩
   by_cases hfull:off=0∧len*i.size=size
   ·obtain ⟨rfl,hsz⟩:=hfull
    have hbt:both (Nat.beq 0 0) (Nat.beq (len*i.size) size)=true:=by rw [hsz];simp [both]
    rw [hbt,bs_true] at h13
    obtain ⟨h16,h17⟩:=both_true h13
    have h16:=ble_true h16
    rw [← hcl] at h16 h17
    obtain ⟨l1,l2,l3⟩:=hlaid size (room (size+cs.length) c) (acap_room _ _ h16)
    have hcapc:=acap_room_ge (size+cs.length) c
    have hnew:∀ v,ver+1≤v→φ id v=none:=fun v hv=>b7 v (by omega)
    have hgood:∀ (B' base':Nat) (cs':Array Value) (fr':Nat×Nat) (w':World),w'.heap[B']?=some (.cells cs' el' fr')→base'+(size+cs.length)≤cs'.size→(∀ j,j<size→cs'[base'+j]?=ccs[L.base+j]?)→(∀ j,j<cs.length→cs'[base'+size+j]?=cs[j]?)→
      (∀ j,frz≤j→base'+j<cs'.size→¬ (fr'.1≤base'+j∧base'+j<fr'.2))→w.heap.size≤w'.heap.size→w'.os=w.os→w'.tape=w.tape→w'.output=w.output→(∀ q,q<w.heap.size→q≠B'→w'.heap[q]?=w.heap[q]?)→(B'=L.B∨w.heap.size≤B')→
      Rel (φ.add id (ver+1) ⟨B',base',size+cs.length,cs'.size⟩) ⟨h.next,hset id (.bk (src size (room (size+cs.length) c)) (size+cs.length) (ver+1) frz el' false true) h.tr⟩ w'∧
      Ext φ h w (φ.add id (ver+1) ⟨B',base',size+cs.length,cs'.size⟩) ⟨h.next,hset id (.bk (src size (room (size+cs.length) c)) (size+cs.length) (ver+1) frz el' false true) h.tr⟩ w':=by
     intro B' base' cs' fr' w' g1 g2 g3 g4 g5 g6 g7 g8 g9 g10 g11
     have hle:=φ.le_add id (ver+1) ⟨B',base',size+cs.length,cs'.size⟩ (hnew _ (Nat.le_refl _))
     have hold:∀ i v m,φ.add id (ver+1) ⟨B',base',size+cs.length,cs'.size⟩ i v=some m→i≠id→φ i v=some m:=fun i v m q hq=>by
      rw [Phi.add_other _ _ (fun z=>hq z.1)] at q;exact q
     have hBlt:B'<w'.heap.size:=by
      by_cases q:B'<w'.heap.size
      ·exact q
      ·rw [Array.getElem?_eq_none (by omega)] at g1;simp at g1
     have hl:φ.add id (ver+1) ⟨B',base',size+cs.length,cs'.size⟩ id (verOf (.bk (src size (room (size+cs.length) c)) (size+cs.length) (ver+1) frz el' false true))=some ⟨B',base',size+cs.length,cs'.size⟩:=Phi.add_same _ _ _ _
     have hbok:BlkOk (φ.add id (ver+1) ⟨B',base',size+cs.length,cs'.size⟩) w' id (.bk (src size (room (size+cs.length) c)) (size+cs.length) (ver+1) frz el' false true):=by
      refine ⟨_,cs',fr',Phi.add_same _ _ _ _,rfl,g1,rfl,g2,by rw [l1];exact acap_room _ _ h16,fun j hj=>?_,fun v hv=>by rw [Phi.add_other _ _ (by omega)];exact hnew v (by omega),fun _=>g5,fun q=>by simp at q⟩
      by_cases hj2:j<size
      ·obtain ⟨v,v1,v2,v3⟩:=b6 j (by omega)
       refine ⟨v,by rw [g3 j hj2];exact v1,?_,v3⟩
       rw [l2 j (by omega) (.inl hj2),aget_room _ _ _ (by omega)]
       exact v2.mono hle
      ·have hq:j-size<cs.length:=by omega
       have hx:cs[j-size]?=some (cs[j-size]'hq):=List.getElem?_eq_getElem hq
       refine ⟨cs[j-size]'hq,?_,?_,hone _ (List.getElem_mem _)⟩
       ·have:=g4 (j-size) hq
        rw [show base'+size+(j-size)=base'+j from by omega] at this
        show cs'[base'+j]?=_
        rw [this];exact hx
       ·have:=(l3 (j-size) _ hx).mono hle
        rw [show size+(j-size)=j from by omega] at this;exact this
     refine ⟨R.put (id:=id) (nx:=h.next) (l:=⟨B',base',size+cs.length,cs'.size⟩) (R.dom _ _ _ f1).1 (Nat.le_refl _) R.next (fun _ _ _=>.inl rfl) hle hold ?_ g6 g10 hbok hl ?_,
      Ext.put (h:=h) (n0:=h.next) (id:=id) (l:=⟨B',base',size+cs.length,cs'.size⟩) hid (fun _ _ _=>.inl rfl) hle hold g6 g7 g8 g9 R.next (Nat.le_refl _) (.inr (by rw [e2];simp)) g10 hl ?_⟩
     ·intro v m q
      by_cases hv:v=ver+1
      ·subst hv;rw [Phi.add_same] at q;cases q;exact ⟨hBlt,g2⟩
      ·rw [Phi.add_other _ _ (fun z=>hv z.2)] at q
       obtain ⟨_,d1,d2⟩:=R.dom _ _ _ q
       exact ⟨by omega,d2⟩
     ·intro j m hj hne hnb hm
      show m.B≠B'
      rcases g11 with rfl | g11
      ·exact fun q=>R.apart id j hid hj (Ne.symm hne) (by rw [e2];exact hown) hnb L m (by rw [e2];exact f1) hm q.symm
      ·have:=(R.dom _ _ _ hm).2.1;omega
     ·rcases g11 with rfl | g11
      ·exact .inl hOwn
      ·exact .inr g11
    by_cases hroom:len+n≤cap
    ·obtain ⟨w',cs',s1,s2,s3,s4,s5,s6,s7,s8,s9⟩:=hstore hroom
     have hcapsz:(len+n)*i.size≤cap*i.size:=Nat.mul_le_mul_right _ hroom
     obtain ⟨R',X⟩:=hgood L.B L.base cs' fr w' s2 (by rw [s3];omega) (fun j hj=>by rw [s4,if_neg (by omega)]) (fun j hj=>by
       rw [s4,if_pos (by omega)];congr 1;omega) (fun j hj hj2=>b8 hown j hj (by omega)) (by omega) s6 s7 s8 (fun q _ hq=>s9 q hq) (.inl rfl)
     refine ⟨_,.slice (some oo) (len+n) cap,_,_,_,hex _ _ (by rw [e3];exact run_append_room hts htu ht hu hdu hi w w' _ len cap _ n cs hlen (hfc w fun _=>rfl) hroom s1),?_,R',X,h17⟩
     refine RV.sl (l:=⟨L.B,L.base,size+cs.length,cs'.size⟩) (Phi.add_same _ _ _ _) (by show 0+(len+n)*i.size≤size+cs.length;omega) hroom (fun q=>f4 q) ?_
     show L.base+0+cap*i.size≤cs'.size
     rw [s3];omega
    ·have hlen2:len≤size:=by rw [← hsz];exact Nat.le_mul_of_pos_right _ hesz
     have hfit:(len+n)*i.bytes≤140737488355328:=by
      have:(len+n)*i.bytes≤17179869184*4096:=Nat.mul_le_mul (by omega) hby
      omega
     obtain ⟨newCap,c1,c2⟩:=run_append_none (ty:=ty) hts htu ht hu hdu hi hz w (some oo) len cap (ρ y) n cs olds hlen (hfc _ fun _=>rfl) (holds _ fun _=>rfl) (by omega) hfit (by omega)
     have hcsz:(olds.toArray++cs.toArray++Builtin.zeroCells z.cells (newCap-(len+n)):Array Value).size=size+cs.length+(newCap-(len+n))*i.size:=by
      simp [Builtin.zeroCells,hzs,o1];omega
     obtain ⟨R',X⟩:=hgood w.heap.size 0 (olds.toArray++cs.toArray++Builtin.zeroCells z.cells (newCap-(len+n))) (0,0) (w.drew.alloc (.cells (olds.toArray++cs.toArray++Builtin.zeroCells z.cells (newCap-(len+n))) el')) (push_new _ _) (by rw [hcsz];omega) (fun j hj=>by
       have hjo:j<olds.length:=by omega
       have:=o3 j _ (List.getElem?_eq_getElem hjo)
       rw [Nat.add_zero,cell_of_block b2] at this
       rw [this,Nat.zero_add,Array.append_assoc,Array.getElem?_append_left (by simpa using hjo)]
       simp [hjo]) (fun j hj=>by
       rw [Nat.zero_add,Array.append_assoc,Array.getElem?_append_right (by simp;omega),Array.getElem?_append_left (by simp;omega)]
       simp [o1,hsz]) (fun j _ _=>by simp) (by simp) rfl rfl rfl (fun q hq _=>push_old _ _ _ hq) (.inr (Nat.le_refl _))
     refine ⟨_,_,_,_,_,hex _ _ (by rw [e3];exact c2),?_,R',X,h17⟩
     refine RV.sl (l:=⟨w.heap.size,0,size+cs.length,_⟩) (Phi.add_same _ _ _ _) (by show 0+(len+n)*i.size≤size+cs.length;omega) c1 (fun _=>rfl) ?_
     show 0+0+newCap*i.size≤(olds.toArray++cs.toArray++Builtin.zeroCells z.cells (newCap-(len+n)):Array Value).size
     have hnc2:(len+n)*i.size+(newCap-(len+n))*i.size=newCap*i.size:=by rw [← Nat.add_mul];congr 1;omega
     rw [hcsz];omega
   ·have hbf:both (Nat.beq off 0) (Nat.beq (len*i.size) size)=false:=by
     rw [← Bool.not_eq_true];intro q
     obtain ⟨q1,q2⟩:=both_true q
     exact hfull ⟨beq_true q1,beq_true q2⟩
    rw [hbf,bs_false] at h13
    obtain ⟨h16,h17⟩:=both_true h13
    obtain ⟨h18,h19⟩:=both_true h17
    have h16:=ble_true h16;have h18:=ble_true h18
    rw [← hcl] at h16 h19
    obtain ⟨k1,k2,k3⟩:=acopy_laid (φ:=φ) c olds off o4 0 (fresh (len*i.size+cs.length)) (by rw [Nat.zero_add];have:=acap_fresh _ h16;omega)
    rw [o1] at k1 k2 k3
    have hfc2:=acap_fresh _ h16
    obtain ⟨l1,l2,l3⟩:=hlaid (len*i.size) (acopy c (len*i.size) off 0 (fresh (len*i.size+cs.length))) (by rw [k1];exact hfc2)
    rw [k1] at l1 l2
    have hcell:∀ (base':Nat) (cs':Array Value),(∀ j,j<len*i.size→cs'[base'+j]?=olds[j]?)→(∀ j,j<cs.length→cs'[base'+len*i.size+j]?=cs[j]?)→∀ j,j<len*i.size+cs.length→
      ∃ v,cs'[base'+j]?=some v∧RV φ (aget j (src (len*i.size) (acopy c (len*i.size) off 0 (fresh (len*i.size+cs.length))))) v∧v.oneCell'=true:=by
     intro base' cs' g3 g4 j hj
     by_cases hj2:j<len*i.size
     ·have hx:olds[j]?=some (olds[j]'(by omega)):=List.getElem?_eq_getElem _
      refine ⟨olds[j]'(by omega),by rw [g3 j hj2];exact hx,?_,o2 _ (List.getElem_mem _)⟩
      rw [l2 j (by omega) (.inl hj2)]
      have:=k3 j _ hx
      rw [Nat.zero_add] at this;exact this
     ·have hq:j-len*i.size<cs.length:=by omega
      have hx:cs[j-len*i.size]?=some (cs[j-len*i.size]'hq):=List.getElem?_eq_getElem hq
      refine ⟨cs[j-len*i.size]'hq,?_,?_,hone _ (List.getElem_mem _)⟩
      ·have:=g4 (j-len*i.size) hq
       rw [show base'+len*i.size+(j-len*i.size)=base'+j from by omega] at this
       rw [this];exact hx
      ·have:=l3 (j-len*i.size) _ hx
       rw [show len*i.size+(j-len*i.size)=j from by omega] at this;exact this
    have hT:∀ j,0≤j→hget j (hset id .nb h.tr)=hget j h.tr∨hget j (hset id .nb h.tr)=.nb:=fun j hj=>by
     rw [hget_hset _ _ _ _ hj hid]
     by_cases q:j=id
     ·rw [if_pos q];exact .inr rfl
     ·rw [if_neg q];exact .inl rfl
    by_cases hroom:len+n≤cap
    ·obtain ⟨w',cs',s1,s2,s3,s4,s5,s6,s7,s8,s9⟩:=hstore hroom
     have hcapsz:(len+n)*i.size≤cap*i.size:=Nat.mul_le_mul_right _ hroom
     obtain ⟨R',X⟩:=R.new (Nat.lt_succ_self h.next) (Nat.le_succ _) h18 R.fresh (T:=hset id .nb h.tr) (c:=src (len*i.size) (acopy c (len*i.size) off 0 (fresh (len*i.size+cs.length)))) (n:=len*i.size+cs.length) (frz:=frz) (elem:=el') (ex:=false) (cs:=cs') (fr:=fr) (base:=L.base+off) (B:=L.B) (w':=w') hT
      (by rw [l1];exact hfc2) (by rw [s3];omega) (hcell (L.base+off) cs' (fun j hj=>by
       rw [s4,if_neg (by omega)]
       have hjo:j<olds.length:=by omega
       have:=o3 j _ (List.getElem?_eq_getElem hjo)
       rw [cell_of_block b2] at this
       rw [this];exact (List.getElem?_eq_getElem hjo).symm) (fun j hj=>by rw [s4,if_pos (by omega)];congr 1;omega)) (fun q=>by simp at q)
      (fun j hj hj2=>by have:=b8 hown (off+j) (by omega) (by omega);rw [show L.base+off+j=L.base+(off+j) from by omega];exact this) s2 (by omega) (fun q _ hq=>s9 q hq) s6 s7 s8 (.inl ⟨hOwn,fun j m hj hnb hm=>by
       rw [hget_hset _ _ _ _ hj hid] at hnb hm
       by_cases q:j=id
       ·rw [if_pos q] at hnb;exact absurd rfl hnb
       ·rw [if_neg q] at hnb hm
        exact fun z=>R.apart id j hid hj (Ne.symm q) (by rw [e2];exact hown) hnb L m (by rw [e2];exact f1) hm z.symm⟩)
     refine ⟨_,.slice (some oo) (len+n) cap,_,_,_,hex _ _ (by rw [e3];exact run_append_room hts htu ht hu hdu hi w w' _ len cap _ n cs hlen (hfc w fun _=>rfl) hroom s1),?_,R',X _ (Nat.le_refl _),h19⟩
     refine RV.sl (l:=⟨L.B,L.base+off,len*i.size+cs.length,cs'.size⟩) (Phi.add_same _ _ _ _) (by show 0+(len+n)*i.size≤len*i.size+cs.length;omega) hroom (fun q=>by rw [f4 q,Nat.add_zero]) ?_
     show L.base+off+0+cap*i.size≤cs'.size
     rw [s3];omega
    ·have hlen2:len≤len*i.size:=Nat.le_mul_of_pos_right _ hesz
     have hfit:(len+n)*i.bytes≤140737488355328:=by
      have:(len+n)*i.bytes≤17179869184*4096:=Nat.mul_le_mul (by omega) hby
      omega
     obtain ⟨newCap,c1,c2⟩:=run_append_none (ty:=ty) hts htu ht hu hdu hi hz w (some oo) len cap (ρ y) n cs olds hlen (hfc _ fun _=>rfl) (holds _ fun _=>rfl) (by omega) hfit (by omega)
     have hcsz:(olds.toArray++cs.toArray++Builtin.zeroCells z.cells (newCap-(len+n)):Array Value).size=len*i.size+cs.length+(newCap-(len+n))*i.size:=by
      simp [Builtin.zeroCells,hzs,o1]
     obtain ⟨R',X⟩:=R.new (Nat.lt_succ_self h.next) (Nat.le_succ _) h18 R.fresh (T:=hset id .nb h.tr) (c:=src (len*i.size) (acopy c (len*i.size) off 0 (fresh (len*i.size+cs.length)))) (n:=len*i.size+cs.length) (frz:=frz) (elem:=el') (ex:=false) (cs:=olds.toArray++cs.toArray++Builtin.zeroCells z.cells (newCap-(len+n))) (fr:=(0,0)) (base:=0) (B:=w.heap.size)
      (w':=w.drew.alloc (.cells (olds.toArray++cs.toArray++Builtin.zeroCells z.cells (newCap-(len+n))) el')) hT
      (by rw [l1];exact hfc2) (by rw [hcsz];omega) (hcell 0 _ (fun j hj=>by
       rw [Nat.zero_add,Array.append_assoc,Array.getElem?_append_left (by simp;omega)];simp) (fun j hj=>by
       rw [Nat.zero_add,Array.append_assoc,Array.getElem?_append_right (by simp;omega),Array.getElem?_append_left (by simp;omega)]
       simp [o1])) (fun q=>by simp at q) (fun j _ _=>by simp) (push_new _ _) (by simp) (fun q hq _=>push_old _ _ _ hq) rfl rfl rfl (.inr (Nat.le_refl _))
     refine ⟨_,_,_,_,_,hex _ _ (by rw [e3];exact c2),?_,R',X _ (Nat.le_refl _),h19⟩
     refine RV.sl (l:=⟨w.heap.size,0,len*i.size+cs.length,_⟩) (Phi.add_same _ _ _ _) (by show 0+(len+n)*i.size≤len*i.size+cs.length;omega) c1 (fun _=>rfl) ?_
     show 0+0+newCap*i.size≤(olds.toArray++cs.toArray++Builtin.zeroCells z.cells (newCap-(len+n)):Array Value).size
     have hnc2:(len+n)*i.size+(newCap-(len+n))*i.size=newCap*i.size:=by rw [← Nat.add_mul];congr 1;omega
     rw [hcsz];omega
end Go.Bvm
set_option linter.unusedVariables false
namespace Go.Bvm
variable {P:Program} {G:Nat→Bool} {N:Fr} {q:Operand→Option V}
theorem s2b_ok {o:Oper} {src dst el:TypeId} {x:Operand} {id:Nat} {h:H} {k:KV} (hm:un q x (fun a=>s2bA id el a h k)=true) (ho:o.op=.convert src dst x) (hs:P.underlying src=some .string) (hd:P.underlying dst=some (.slice el)) (he:P.underlying el=some (.int .u8)) :
  AopS P q o id h k:=by
 obtain ⟨dst',op',ty,pos,aft,grd⟩:=o
 simp only at ho;subst ho
 intro φ ρ w r R hid hnone
 obtain ⟨g,hx,hm⟩:=un_true hm
 obtain ⟨l,n,e1,h2⟩:=onS_true hm
 obtain ⟨h3,h6⟩:=both_true h2
 have h3:=ble_true h3
 have rx:=r _ _ hx
 rw [e1] at rx
 obtain ⟨s,e2,rfl,rfl⟩:=rx.inv_s
 have hl:=abytes_laid (φ:=φ) s.data.toList
 rw [← size_data] at hl
 have hlen:(s.data.toList.map fun b=>Value.int .u8 (b.toNat:Int)).length=s.size:=by rw [List.length_map,← size_data]
 obtain ⟨k1,k2,k3⟩:=hl 0 (fresh s.size) (by rw [hlen,Nat.zero_add];exact acap_fresh _ h3)
 have hcs:(Lib.bytesCells w el s).size=s.size+(Lib.bytesCells w el s).size-s.size:=by omega
 have hge:s.size≤(Lib.bytesCells w el s).size:=by
  unfold Lib.bytesCells
  rw [Array.size_append,Array.size_map]
  show s.size≤s.size+_
  omega
 have hcap:(Lib.bytesCells w el s).size=grownCap w s.size 0 el:=by
  unfold Lib.bytesCells
  have:s.size≤grownCap w s.size 0 el:=by unfold grownCap;exact Nat.le_add_right _ _
  rw [Array.size_append,Array.size_map,Array.size_replicate]
  show s.size+_=_
  omega
 obtain ⟨R',X⟩:=R.new hid (Nat.le_refl _) R.next hnone (T:=h.tr) (c:=abytes s.size (pack s.data.toList) 0 (fresh s.size)) (n:=s.size) (frz:=0) (elem:=el) (ex:=false) (cs:=Lib.bytesCells w el s) (fr:=((Lib.bytesCells w el s).size,(Lib.bytesCells w el s).size+1)) (base:=0) (B:=w.heap.size) (w':=Lib.bytesWorld w el s) (fun _ _=>.inl rfl)
  (by rw [k1];exact acap_fresh _ h3) (by omega) (fun j hj=>by
   have hj2:j<s.data.toList.length:=by rw [← size_data];exact hj
   have hx:(s.data.toList.map fun b=>Value.int .u8 (b.toNat:Int))[j]?=some (.int .u8 ((s.data.toList[j]'hj2).toNat:Int)):=by rw [List.getElem?_map,List.getElem?_eq_getElem hj2];rfl
   refine ⟨.int .u8 ((s.data.toList[j]'hj2).toNat:Int),?_,?_,rfl⟩
   ·rw [Nat.zero_add];unfold Lib.bytesCells
    rw [Array.getElem?_append_left (by rw [Array.size_map];exact hj),Array.getElem?_map,Array.getElem?_eq_getElem (by exact hj)]
    rfl
   ·have:=k3 j _ hx
    rw [Nat.zero_add] at this;exact this) (fun q=>by simp at q) (fun i _ hi=>by simp at hi ⊢;omega) (Lib.bytesWorld_at_new _ _ _) (by rw [Lib.bytesWorld_size];omega) (fun q hq _=>Lib.bytesWorld_at_old _ _ _ _ hq) rfl rfl rfl (.inr (Nat.le_refl _))
 refine ⟨_,_,run_value (convert src dst (ρ x)) _ _ _ (by rw [e2];exact Lib.run_convert_string_bytes w src dst el s hs hd he),_,_,_,h6,?_,R',X,fun i v hi=>Phi.add_other _ _ (fun z=>hi z.1)⟩
 refine RV.sl (l:=⟨w.heap.size,0,s.size,_⟩) (Phi.add_same _ _ _ _) (by show 0+s.size*1≤s.size;omega) (by unfold grownCap;exact Nat.le_add_right _ _) (fun _=>rfl) ?_
 show 0+0+grownCap w s.size 0 el*1≤(Lib.bytesCells w el s).size
 rw [hcap];omega
theorem packA_true {φ:Phi} {c:Arr}:∀ (q:List Value) (i:Nat) (k:Nat→Bool),packA c q.length i k=true→(∀ (j:Nat) v,q[j]?=some v→RV φ (aget (i+j) c) v)→
  ∃ bs:List UInt8,q=bs.map (fun b=>.int .u8 (b.toNat:Int))∧k (pack bs)=true
 | [],i,k,h,_=>⟨[],rfl,h⟩
 | v::r,i,k,h,hr=>by
  have h0:=hr 0 v (by simp)
  rw [Nat.add_zero] at h0
  obtain ⟨b,hv,h'⟩:=onY_true (show onY (aget i c) (fun b=>packA c r.length (i+1) fun z=>k (b+256*z))=true from h)
  rw [hv] at h0
  obtain ⟨hb,rfl⟩:=h0.inv_y
  obtain ⟨bs,e1,e2⟩:=packA_true r (i+1) _ h' (fun j u hu=>by
   have:=hr (j+1) u (by simpa using hu)
   rw [show i+1+j=i+(j+1) from by omega];exact this)
  refine ⟨UInt8.ofNat b::bs,?_,?_⟩
  ·rw [e1,List.map_cons];congr 2
   rw [UInt8.toNat_ofNat_of_lt' (by simpa using hb)]
  ·simp only [pack]
   rw [UInt8.toNat_ofNat_of_lt' (by simpa using hb)];exact e2
theorem push_fold:∀ (bs:List UInt8) (s:ByteArray),(bs.map fun b=>(b.toNat:Int)).foldl (fun r n=>r.push (UInt8.ofNat n.toNat)) s=⟨s.data++bs.toArray⟩
 | [],s=>by simp
 | b::r,s=>by
  simp only [List.map_cons,List.foldl_cons]
  rw [push_fold r]
  apply bytes_ext
  simp [ByteArray.push]
theorem b2s_ok {o:Oper} {src dst el:TypeId} {x:Operand} {h:H} {k:V→Bool} (hm:un q x (fun a=>b2s a h k)=true) (ho:o.op=.convert src dst x) (hs:P.underlying src=some (.slice el)) (hd:P.underlying dst=some .string) (he:P.underlying el=some (.int .u8)) {φ:Phi} {ρ:Operand→Value} {w:World} (r:QR φ q ρ) (R:Rel φ h w) :
  ∃ v c,(execOp ρ o).run P w=.ok (.value c) w∧RV φ v c∧k v=true:=by
 obtain ⟨dst',op',ty,pos,aft,grd⟩:=o
 simp only at ho;subst ho
 obtain ⟨g,hx,hm⟩:=un_true hm
 have rx:=r _ _ hx
 rcases onSl_true hm with ⟨q1,q2,e1,h2⟩ | ⟨id,off,len,ver,es,e1,h2⟩
 ·rw [e1] at rx
  have e2:=rx.inv_slnil
  exact ⟨_,.string .empty,run_value (convert src dst (ρ x)) _ _ _ (by rw [e2,run_convert_bytes_string w src dst el _ _ _ hs he hd];rfl),.s rfl rfl,h2⟩
 ·obtain ⟨h3,h4⟩:=both_true h2
  obtain rfl:=beq_true h3
  obtain ⟨c,size,bver,frz,elem,ex,own,e2,h5⟩:=onBk_true h4
  obtain ⟨h6,h7⟩:=both_true h5
  obtain rfl:=beq_true h6
  rw [e1] at rx
  obtain ⟨L,oo,cap,f1,f2,f3,f4,f5,e3⟩:=rx.inv_sl
  obtain ⟨q,q1,q2,q3,q4⟩:=cellsAt R f1 e2 off len (by omega)
  rw [← q1] at h7
  obtain ⟨bs,b1,b2⟩:=packA_true q off _ h7 q4
  have hlb:bs.length=len:=by rw [← q1,b1,List.length_map]
  have hload:(loadCells oo len).run P w=.ok ((bs.map fun b=>(b.toNat:Int)).map (Value.int .u8)).toArray w:=by
   have hq:(bs.map fun b=>(b.toNat:Int)).map (Value.int .u8)=q:=by rw [b1,List.map_map];rfl
   rw [hq]
   by_cases hz:len=0
   ·subst hz
    obtain rfl:q=[]:=List.eq_nil_of_length_eq_zero q1
    rfl
   ·have ho:oo=⟨L.B,L.base+off,none⟩:=f4 (by omega)
    rw [← q1]
    exact run_loadCells_list w oo q fun j v hj=>by rw [ho,add_addr];exact q3 j v hj
  refine ⟨_,.string ⟨bs.toArray⟩,run_value (convert src dst (ρ x)) _ _ _ ?_,.s ?_ ?_,b2⟩
  ·rw [e3,run_convert_bytes_string w src dst el _ _ _ hs he hd,run_bytesToString w _ _ _ _ hload,push_fold]
   simp
  ·rw [size_data];simpa using (hlb.trans q1.symm)
  ·simp
theorem conv_run {src dst:TypeId} {k k':IntKind} {v:Value} {n:Int} {q:IntKind} (hs:P.underlying src=some (.int k)) (hd:P.underlying dst=some (.int k')) (w:World):(convert src dst (.int q n)).run P w=.ok (.int k' (k'.wrap n)) w:=by
 unfold convert
 simp [run_under hs,run_under hd,Conv.intToInt]
theorem toW_true {v:V} {k:V→Bool} {c:Value} {φ:Phi} (h:toW v k=true) (r:RV φ v c):∃ q n m,c=.int q n∧k (.w m)=true∧(m:Int)=(n+9223372036854775808) % 18446744073709551616:=by
 cases v <;> try exact Bool.noConfusion (show false=true from h)
 ·obtain ⟨hn,rfl⟩:=r.inv_w
  exact ⟨_,_,_,rfl,h,by omega⟩
 ·obtain ⟨hn,rfl⟩:=r.inv_y
  exact ⟨_,_,_,rfl,h,by unfold bias;omega⟩
 ·rename_i g a b
  cases g <;> try exact Bool.noConfusion (show false=true from h)
  rename_i q n
  obtain ⟨_,_,rfl⟩:=r.inv_int
  refine ⟨_,_,_,rfl,h,?_⟩
  have:=wrap_i64 n ((n+9223372036854775808) % 18446744073709551616).toNat (by omega)
  rw [this];omega
theorem toY_true {v:V} {k:V→Bool} {c:Value} {φ:Phi} (h:toY v k=true) (r:RV φ v c):∃ q n m,c=.int q n∧k (.y m)=true∧(m:Int)=n % 256:=by
 cases v <;> try exact Bool.noConfusion (show false=true from h)
 ·obtain ⟨hn,rfl⟩:=r.inv_w
  exact ⟨_,_,_,rfl,h,by omega⟩
 ·obtain ⟨hn,rfl⟩:=r.inv_y
  exact ⟨_,_,_,rfl,h,by omega⟩
 ·rename_i g a b
  cases g <;> try exact Bool.noConfusion (show false=true from h)
  rename_i q n
  obtain ⟨_,_,rfl⟩:=r.inv_int
  refine ⟨_,_,_,rfl,h,?_⟩
  have:=wrap_u8 n (n % 256).toNat (by omega)
  rw [this];omega
theorem toI_true {v:V} {k:V→Bool} {c:Value} {φ:Phi} {z:IntKind} (h:toI z v k=true) (r:RV φ v c):∃ q n,c=.int q n∧k (mkI z (z.wrap n))=true:=by
 cases v <;> try exact Bool.noConfusion (show false=true from h)
 ·obtain ⟨hn,rfl⟩:=r.inv_w
  exact ⟨_,_,rfl,h⟩
 ·obtain ⟨hn,rfl⟩:=r.inv_y
  exact ⟨_,_,rfl,h⟩
 ·rename_i g a b
  cases g <;> try exact Bool.noConfusion (show false=true from h)
  obtain ⟨_,_,rfl⟩:=r.inv_int
  exact ⟨_,_,rfl,h⟩
theorem toW_fun {src dst:TypeId} {k:IntKind} (hs:P.underlying src=some (.int k)) (hd:P.underlying dst=some (.int .i64)):Fun1 P toW (fun v=>convert src dst v):=by
 intro φ x kk h c hc w
 obtain ⟨q,n,m,rfl,hk,hm⟩:=toW_true h hc
 exact ⟨_,_,conv_run (v:=.nilIface) hs hd w,RV.mk_w _ _ hm,hk⟩
theorem toY_fun {src dst:TypeId} {k:IntKind} (hs:P.underlying src=some (.int k)) (hd:P.underlying dst=some (.int .u8)):Fun1 P toY (fun v=>convert src dst v):=by
 intro φ x kk h c hc w
 obtain ⟨q,n,m,rfl,hk,hm⟩:=toY_true h hc
 exact ⟨_,_,conv_run (v:=.nilIface) hs hd w,RV.mk_y _ _ hm,hk⟩
theorem toI_fun {src dst:TypeId} {k z:IntKind} (h1:z≠.i64) (h2:z≠.u8) (hs:P.underlying src=some (.int k)) (hd:P.underlying dst=some (.int z)):Fun1 P (toI z) (fun v=>convert src dst v):=by
 intro φ x kk h c hc w
 obtain ⟨q,n,rfl,hk⟩:=toI_true h hc
 exact ⟨_,_,conv_run (v:=.nilIface) hs hd w,RV.mkI h1 h2,hk⟩
theorem str_fun {src dst:TypeId} (hs:P.underlying src=some .string) (hd:P.underlying dst=some .string) (s:ByteArray) (w:World):(convert src dst (.string s)).run P w=.ok (.string s) w:=by
 unfold convert
 simp [run_under hs,run_under hd]
theorem vnth_true {φ:Phi}:∀ (l:V) (n:Nat) (k:V→Bool) (cs:List Value),vnth l n k=true→RL φ l cs→∃ x c,cs[n]?=some c∧RV φ x c∧k x=true
 | .x .cons a b,n,k,cs,h,r=>by
  cases r with
  | cons ha hb=>
   cases n with
   | zero=>exact ⟨a,_,rfl,ha,h⟩
   | succ n=>
    obtain ⟨x,c,e1,e2,e3⟩:=vnth_true b n k _ h hb
    exact ⟨x,c,by simpa using e1,e2,e3⟩
 | .x .nil _ _,_,_,_,h,_=>Bool.noConfusion (show false=true from h)
 | .w _,_,_,_,h,_=>Bool.noConfusion (show false=true from h)
 | .y _,_,_,_,h,_=>Bool.noConfusion (show false=true from h)
 | .t _,_,_,_,h,_=>Bool.noConfusion (show false=true from h)
 | .s _ _,_,_,_,h,_=>Bool.noConfusion (show false=true from h)
 | .p _ _ _ _,_,_,_,h,_=>Bool.noConfusion (show false=true from h)
 | .sl _ _ _ _ _,_,_,_,h,_=>Bool.noConfusion (show false=true from h)
 | .x (.int _ _) _ _,_,_,_,h,_=>Bool.noConfusion (show false=true from h)
 | .x .pnil _ _,_,_,_,h,_=>Bool.noConfusion (show false=true from h)
 | .x .slnil _ _,_,_,_,h,_=>Bool.noConfusion (show false=true from h)
 | .x .fnil _ _,_,_,_,h,_=>Bool.noConfusion (show false=true from h)
 | .x .inil _ _,_,_,_,h,_=>Bool.noConfusion (show false=true from h)
 | .x .mnil _ _,_,_,_,h,_=>Bool.noConfusion (show false=true from h)
 | .x .undef _ _,_,_,_,h,_=>Bool.noConfusion (show false=true from h)
 | .x .agg _ _,_,_,_,h,_=>Bool.noConfusion (show false=true from h)
 | .x .tup _ _,_,_,_,h,_=>Bool.noConfusion (show false=true from h)
 | .x (.iface _) _ _,_,_,_,h,_=>Bool.noConfusion (show false=true from h)
 | .x (.func _) _ _,_,_,_,h,_=>Bool.noConfusion (show false=true from h)
 | .x (.map _) _ _,_,_,_,h,_=>Bool.noConfusion (show false=true from h)
 | .x .osl _ _,_,_,_,h,_=>Bool.noConfusion (show false=true from h)
 | .x .nn _ _,_,_,_,h,_=>Bool.noConfusion (show false=true from h)
 | .x .any _ _,_,_,_,h,_=>Bool.noConfusion (show false=true from h)
theorem ext_fun (i:Nat):Fun1 P (ext i) (fun v=>Instr.extract v i):=by
 intro φ x k h c hc w
 obtain ⟨l,b,rfl,h2⟩:=onTup_true h
 cases hc with
 | tup hl=>
  rename_i q
  obtain ⟨x,c,e1,e2,e3⟩:=vnth_true l i k _ h2 hl
  refine ⟨x,c,?_,e2,e3⟩
  have e4:(⟨q⟩ : Array Value)[i]?=some c:=by simpa using e1
  show (match (⟨q⟩ : Array Value)[i]? with | some v=>pure v | none=>stuck "Extract: no such component" : Sem Value).run P w=_
  rw [e4];rfl
theorem vapp_rel {φ:Phi} {b:V} {m:List Value} (hb:RL φ b m):∀ (a:V) (l:List Value),RL φ a l→RL φ (vapp a b) (l++m)
 | _,_,.nil=>hb
 | _,_,.cons h r=>.cons h (vapp_rel hb _ _ r)
def CallS (P:Program) (G:Nat→Bool) (cf:CallF):Prop:=∀ f l h k,cf f l h k=true→∀ φ w args,GlobOk P G φ→RL φ l args→Rel φ h w→OpRun P (callFunc f ⟨args⟩) w (FPost k φ h w)
theorem call_ok {cf:CallF} (hcf:CallS P G cf) {o:Oper} {f:Nat} {xs:Array Operand} {ts:Array TypeId} {l:V} {h:H} {k:KV} (hm:cf f l h k=true) (hl:oprs q xs.toList=some l) (ho:o.op=.call ⟨.value (.func f),xs,ts⟩) {φ:Phi} {ρ:Operand→Value} {w:World} (hg:GlobOk P G φ) (hf:ρ (.func f)=.func (.func f) #[] #[]) (r:QR φ q ρ) (R:Rel φ h w) :
  OpRun P (execOp ρ o) w (FPost k φ h w):=by
 obtain ⟨dst,op',ty,pos,aft,grd⟩:=o
 simp only at ho;subst ho
 have hex:execOp ρ ⟨dst,.call ⟨.value (.func f),xs,ts⟩,ty,pos,aft,grd⟩=callFunc f ⟨xs.toList.map ρ⟩:=by
  have e1:(#[]++Array.map ρ xs ++ #[]:Array Value)=⟨xs.toList.map ρ⟩:=by apply Array.ext';simp
  rw [← e1]
  show (do let d ← Deferred.ofValue (ρ (.func f)) (xs.map ρ);invoke d.target d.args:Sem Next)=_
  rw [hf];rfl
 rw [hex]
 exact hcf f l h _ hm φ w _ hg (oprs_ok r _ _ hl) R
theorem callv_ok {cf:CallF} (hcf:CallS P G cf) {o:Oper} {x:Operand} {g:V} {xs:Array Operand} {ts:Array TypeId} {l:V} {h:H} {k:KV} (hm:callV cf g l h k=true) (hx:q x=some g) (hl:oprs q xs.toList=some l) (ho:o.op=.call ⟨.value x,xs,ts⟩) {φ:Phi} {ρ:Operand→Value} {w:World} (hg:GlobOk P G φ) (r:QR φ q ρ) (R:Rel φ h w) :
  OpRun P (execOp ρ o) w (FPost k φ h w):=by
 obtain ⟨dst,op',ty,pos,aft,grd⟩:=o
 simp only at ho;subst ho
 obtain ⟨f,c1,c2,e1,h2⟩:=onFn_true hm
 have rx:=r _ _ hx
 rw [e1] at rx
 generalize hc:ρ x=cv at rx
 cases rx with
 | func r1 r2=>
  rename_i l1 l2
  have hex:execOp ρ ⟨dst,.call ⟨.value x,xs,ts⟩,ty,pos,aft,grd⟩=callFunc f ⟨l1++xs.toList.map ρ++l2⟩:=by
   have e1:((⟨l1⟩ : Array Value)++Array.map ρ xs++(⟨l2⟩ : Array Value):Array Value)=⟨l1++xs.toList.map ρ++l2⟩:=by apply Array.ext';simp
   rw [← e1]
   show (do let d ← Deferred.ofValue (ρ x) (xs.map ρ);invoke d.target d.args:Sem Next)=_
   rw [hc];rfl
  rw [hex]
  exact hcf f _ h _ h2 φ w _ hg (vapp_rel r2 _ _ (vapp_rel (oprs_ok r _ _ hl) _ _ r1)) R
end Go.Bvm
set_option linter.unusedVariables false
namespace Go.Bvm
variable {P:Program} {G:Nat→Bool} {N:Fr} {q:Operand→Option V}
theorem vput_true {φ:Phi}:∀ {l:V} {cs:List Value},RL φ l cs→∀ (off:Nat) (vs:V) (ds:List Value) (k:V→Bool),RL φ vs ds→vput l off vs k=true→
  ∃ r,k r=true∧off+ds.length≤cs.length∧RL φ r (cs.take off++ds++cs.drop (off+ds.length))
 | _,_,.nil,off,vs,ds,k,hv,h=>by
  cases hv with
  | nil=>
   cases off with
   | zero=>exact ⟨_,h,by simp,by simpa using RL.nil⟩
   | succ m=>exact Bool.noConfusion (show false=true from h)
  | cons a b=>cases off <;> exact Bool.noConfusion (show false=true from h)
 | _,_,.cons (v:=v) (r:=r) ha hb,off,vs,ds,k,hv,h=>by
  cases off with
  | zero=>
   cases hv with
   | nil=>exact ⟨_,h,by simp,by simpa using RL.cons ha hb⟩
   | cons hx hy=>
    obtain ⟨q,e1,e2,e3⟩:=vput_true hb 0 _ _ _ hy h
    refine ⟨_,e1,by simp at e2 ⊢;omega,?_⟩
    simp only [List.take_zero,List.nil_append,Nat.zero_add,List.cons_append,List.length_cons,List.drop_succ_cons] at e3 ⊢
    exact .cons hx e3
  | succ m=>
   obtain ⟨q,e1,e2,e3⟩:=vput_true hb m vs ds _ hv h
   refine ⟨_,e1,by simp;omega,?_⟩
   rw [show m+1+ds.length=(m+ds.length)+1 from by omega]
   simp only [List.take_succ_cons,List.cons_append,List.drop_succ_cons]
   exact .cons ha e3
theorem vlen_rel {φ:Phi}:∀ {l:V} {cs:List Value},RL φ l cs→vlen l=cs.length
 | _,_,.nil=>rfl
 | _,_,.cons ha hb=>by
  have:=vlen_rel hb
  simp only [List.length_cons,← this];rfl
theorem foldl_set (off:Nat):∀ (l:List Value) (m:Nat) (cs:Array Value),off+m+l.length≤cs.size→
  ((l.zipIdx m).foldl (fun cs x=>cs.setIfInBounds (off+x.2) x.1) cs).toList=cs.toList.take (off+m)++l++cs.toList.drop (off+m+l.length)
 | [],m,cs,h=>by simp
 | v::r,m,cs,h=>by
  simp only [List.zipIdx_cons,List.foldl_cons,List.length_cons] at h ⊢
  rw [foldl_set off r (m+1) _ (by simp;omega)]
  have hlt:off+m<cs.toList.length:=by simp;omega
  simp only [Array.toList_setIfInBounds]
  rw [show off+(m+1)=off+m+1 from by omega,show off+m+1+r.length=off+m+(r.length+1) from by omega]
  rw [List.take_succ_eq_append_getElem (by simpa using hlt),List.getElem_set_self,List.take_set_of_le (by omega),List.drop_set_of_lt (by omega)]
  simp
theorem fill_step {place:Nat→Option (Nat×Nat)} {cs:Array Value} {i off size:Nat} {v:Value} {rest:List (Nat×Value)} (hp:place i=some (off,size)) (hs:v.cells.size=size) (hle:off+size≤cs.size) :
  ∃ cs':Array Value,Instr.fill place cs ((i,v)::rest)=Instr.fill place cs' rest∧cs'.toList=cs.toList.take off++v.cells.toList++cs.toList.drop (off+size):=by
 refine ⟨v.cells.zipIdx.foldl (fun cs (c,j)=>cs.setIfInBounds (off+j) c) cs,?_,?_⟩
 ·rw [Instr.fill,hp]
  simp only
  rw [if_neg (by simp [hs];omega)]
 ·have:=foldl_set off v.cells.toList 0 cs (by simp [hs];omega)
  rw [← Array.foldl_toList,Array.toList_zipIdx]
  simp only [Nat.add_zero] at this
  rw [← hs]
  simpa using this
theorem parts_ok {place:Nat→Option (Nat×TypeId)} {φ:Phi} {ρ:Operand→Value} (r:QR φ q ρ):∀ (ps:List (Nat×Operand)) (l:V) (cs:Array Value) (k:V→Bool),parts P q place ps l k=true→RL φ l cs.toList→(∀ v,v∈cs.toList→v.oneCell'=true)→
  ∃ (l':V) (cs':Array Value),k l'=true∧Instr.fill (fun i=>(place i).map fun p=>(p.1,sizeT P p.2)) cs (ps.map fun p=>(p.1,ρ p.2))=some cs'∧RL φ l' cs'.toList∧cs'.size=cs.size∧(∀ v,v∈cs'.toList→v.oneCell'=true)
 | [],l,cs,k,h,hl,ho=>⟨l,cs,h,rfl,hl,rfl,ho⟩
 | (i,x)::rest,l,cs,k,h,hl,ho=>by
  simp only [parts] at h
  split at h
  ·rename_i off t g hp hx
   split at h
   ·rename_i ht
    have rv:=r _ _ hx
    have key:∀ (vs:V) (u:Value),u=ρ x→RL φ vs u.cells.toList→(∀ v,v∈u.cells.toList→v.oneCell'=true)→u.cells.size=sizeT P t→vput l off vs (fun l'=>parts P q place rest l' k)=true→
      ∃ (l':V) (cs':Array Value),k l'=true∧Instr.fill (fun i=>(place i).map fun p=>(p.1,sizeT P p.2)) cs (((i,x)::rest).map fun p=>(p.1,ρ p.2))=some cs'∧RL φ l' cs'.toList∧cs'.size=cs.size∧(∀ v,v∈cs'.toList→v.oneCell'=true):=by
     intro vs u hu hvs hone hsz hput
     obtain ⟨l1,e1,e2,e3⟩:=vput_true hl off vs _ _ hvs hput
     have hlen:u.cells.toList.length=sizeT P t:=by simpa using hsz
     rw [hlen] at e2 e3
     obtain ⟨cs1,f1,f2⟩:=fill_step (place:=fun i=>(place i).map fun p=>(p.1,sizeT P p.2)) (cs:=cs) (i:=i) (off:=off) (size:=sizeT P t) (v:=ρ x) (rest:=rest.map fun p=>(p.1,ρ p.2)) (by simp [hp]) (by rw [← hu];exact hsz) (by simpa using e2)
     rw [← hu] at f2
     rw [← f2] at e3
     have hone1:∀ v,v∈cs1.toList→v.oneCell'=true:=by
      intro v hv
      rw [f2] at hv
      simp only [List.mem_append] at hv
      rcases hv with (hv | hv) | hv
      ·exact ho v (List.mem_of_mem_take hv)
      ·exact hone v hv
      ·exact ho v (List.mem_of_mem_drop hv)
     have hsz1:cs1.size=cs.size:=by
      rw [← Array.length_toList,f2]
      simp [hlen] at e2 ⊢;omega
     obtain ⟨l2,cs2,g1,g2,g3,g4,g5⟩:=parts_ok r rest l1 cs1 k e1 e3 hone1
     refine ⟨l2,cs2,g1,?_,g3,g4.trans hsz1,g5⟩
     show Instr.fill _ cs ((i,ρ x)::_)=_
     rw [f1];exact g2
    cases hone:oneT P t with
    | true=>
     have h':both (Nat.beq (sizeT P t) 1) (both (oneV g) (vput l off (.x .cons g V.nil) fun l'=>parts P q place rest l' k))=true:=by
      have:=h;unfold part at this;rw [hone] at this;exact this
     obtain ⟨h0,h1⟩:=both_true h'
     obtain ⟨h2,h3⟩:=both_true h1
     have h0:=beq_true h0
     obtain ⟨o1,o2⟩:=oneV_ok h2 rv
     exact key (.x .cons g V.nil) _ rfl (by rw [o2];exact .cons rv .nil) (by rw [o2];simpa using o1) (by rw [o2,h0];rfl) h3
    | false=>
     have h':onAgg g (fun z=>both (Nat.beq (vlen z) (sizeT P t)) (vput l off z fun l'=>parts P q place rest l' k))=true:=by
      have:=h;unfold part at this;rw [hone] at this;exact this
     obtain ⟨q2,b2,e1,h2⟩:=onAgg_true h'
     obtain ⟨h3,h4⟩:=both_true h2
     have h3:=beq_true h3
     rw [e1] at rv
     generalize hu:ρ x=u at rv
     cases rv with
     | agg hl2 ho2=>
      exact key q2 _ hu.symm (by simpa [Value.cells] using hl2) (by simpa [Value.cells] using ho2) (by rw [← h3,vlen_rel hl2];simp [Value.cells]) h4
   ·simp at h
  ·simp at h
theorem zcells_ok {φ:Phi} {z:Value} {v:V} (h:zcells z=some v):RL φ v z.cells.toList∧∀ x,x∈z.cells.toList→x.oneCell'=true:=by
 unfold zcells at h
 split at h
 ·rename_i hall;exact ⟨absL_ok φ _ _ h,fun x hx=>List.all_eq_true.1 hall x hx⟩
 ·simp at h
theorem zslice_ok {φ:Phi} {z:Value} {n:Nat} {v:V} (h:zslice z n=some v) (hz:z.cells.size≠0∨n=0):RL φ v ((List.range n).map fun i=>z.cells[i % z.cells.size]!)∧∀ x,x∈((List.range n).map fun i=>z.cells[i % z.cells.size]!)→x.oneCell'=true:=by
 unfold zslice at h
 split at h
 ·rename_i hall
  refine ⟨absL_ok φ _ _ h,fun x hx=>?_⟩
  simp only [List.mem_map,List.mem_range] at hx
  obtain ⟨i,hi,rfl⟩:=hx
  have hall:∀ x,x∈z.cells.toList→x.oneCell'=true:=fun x hx=>List.all_eq_true.1 hall x hx
  rcases hz with hz | hz
  ·have hlt:i % z.cells.size<z.cells.size:=Nat.mod_lt _ (by omega)
   rw [getElem!_pos z.cells _ hlt]
   exact hall _ (by simp)
  ·omega
 ·simp at h
theorem build_ok {o:Oper} {t:TypeId} {fs:Array Field} {i:TypeInfo} {z:Value} {ps:Array (Nat×Operand)} {v:V} {k:V→Bool} (hm:parts P q (fun j=>(fs[j]?).map fun f=>(f.offset,f.type)) ps.toList v (fun l=>k (.x .agg l V.nil))=true) (ho:o.op=.build t ps) (ht:P.underlying t=some (.struct fs)) (hi:P.info? t=some i) (hz:i.zero=some z) (hv:zcells z=some v)
  (hsz:∀ f,f∈fs.toList→∃ u,P.info? f.type=some u):PopS P q o k:=by
 obtain ⟨dst,op',ty,pos,aft,grd⟩:=o
 simp only at ho;subst ho
 intro φ ρ hh w r R
 obtain ⟨z1,z2⟩:=zcells_ok (φ:=φ) hv
 obtain ⟨l',cs',h1,h2,h3,h4,h5⟩:=parts_ok r _ v z.cells _ hm z1 z2
 refine ⟨_,.agg cs',run_value (Instr.build t (ps.map fun (i,x)=>(i,ρ x))) _ _ _ ?_,?_,h1⟩
 ·unfold Instr.build zeroValue
  have hm:∀ w,(fs.mapM fun f=>do pure (f.offset,← sizeOf f.type):Sem _).run P w=.ok (fs.map fun f=>(f.offset,sizeT P f.type)) w:=by
   intro w
   rw [Array.mapM_eq_mapM_toList]
   have:∀ (l:List Field),(∀ f,f∈l→∃ u,P.info? f.type=some u)→(l.mapM fun f=>do pure (f.offset,← sizeOf f.type):Sem _).run P w=.ok (l.map fun f=>(f.offset,sizeT P f.type)) w:=by
    intro l
    induction l with
    | nil=>intro _;rfl
    | cons f l ih=>
     intro hh
     obtain ⟨u,hu⟩:=hh f (by simp)
     rw [List.mapM_cons,Sem.run_bind,Sem.run_bind,run_size hu]
     simp only [Result.andThen_ok,Sem.run_pure]
     rw [Sem.run_bind,ih (fun g hg=>hh g (by simp [hg]))]
     rfl
   rw [Sem.run_map,this _ hsz]
   simp only [Result.andThen_ok]
   congr 1
   apply Array.ext';simp
  rw [Sem.run_bind,Sem.run_bind,run_info hi]
  simp only [Result.andThen_ok,hz]
  rw [Sem.run_pure]
  simp only [Result.andThen_ok]
  rw [Sem.run_bind,run_under ht]
  simp only [Result.andThen_ok]
  rw [Sem.run_bind,hm]
  simp only [Result.andThen_ok]
  have e1:(fun j:Nat=>(fs.map fun f:Field=>(f.offset,sizeT P f.type))[j]?)=fun j:Nat=>((fs[j]?).map fun f:Field=>(f.offset,f.type)).map fun p=>(p.1,sizeT P p.2):=by
   funext j;rw [Array.getElem?_map];cases fs[j]? <;> rfl
  rw [e1]
  have e2:(ps.map fun (i,x)=>(i,ρ x)).toList=ps.toList.map fun p=>(p.1,ρ p.2):=by simp
  rw [e2,h2]
  rfl
 ·exact .agg h3 h5
theorem run_buildSlice {t el:TypeId} {len:Nat} {i:TypeInfo} {z:Value} {ps:Array (Nat×Value)} {cs':Array Value} (ht:P.underlying t=some (.slice el)) (hi:P.info? el=some i) (hz:i.zero=some z) (hle:len*i.size≤16777216) (w:World)
  (hfill:Instr.fill (fun j=>some (j*i.size,i.size)) ((Array.range (len*i.size)).map (z.cells[· % z.cells.size]!)) ps.toList=some cs'):(Instr.buildSlice t len ps).run P w=.ok (.slice (some ⟨w.heap.size,0,none⟩) len len) (w.alloc (.cells cs' el)):=by
 have hn:¬ (len*i.size>2 ^ 24):=by
  rw [show (2:Nat) ^ 24=16777216 from rfl];omega
 have hs:∀ w,(sizeOf el).run P w=.ok i.size w:=fun w=>by rw [run_size hi];unfold sizeT;rw [hi]
 unfold Instr.buildSlice
 simp only [Sem.run_bind,run_under ht,Result.andThen_ok,hs,if_neg hn]
 by_cases h0:len*i.size=0
 ·have e3:((Array.range (len*i.size)).map (fun x=>(#[]:Array Value)[x % (#[]:Array Value).size]!))=(Array.range (len*i.size)).map (z.cells[· % z.cells.size]!):=by simp [h0]
  rw [if_pos h0,Sem.run_bind,Sem.run_pure]
  simp only [Result.andThen_ok]
  rw [e3,hfill]
  rfl
 ·rw [if_neg h0]
  unfold zeroValue
  simp only [Sem.run_bind,run_info hi,Result.andThen_ok,hz,Sem.run_pure]
  rw [hfill]
  rfl
theorem bsl_ok {o:Oper} {t el:TypeId} {len:Nat} {i:TypeInfo} {z:Value} {ps:Array (Nat×Operand)} {v:V} {id:Nat} {h:H} {k:KV} (hm:parts P q (fun j=>some (j*i.size,el)) ps.toList v (fun l=>bslA id len i.size el l h k)=true) (ho:o.op=.buildSlice t len ps) (ht:P.underlying t=some (.slice el)) (hi:P.info? el=some i) (hz:i.zero=some z) (hv:zslice z (len*i.size)=some v)
  (h1s:1≤i.size) (hzs:z.cells.size≠0):AopS P q o id h k:=by
 obtain ⟨dst,op',ty,pos,aft,grd⟩:=o
 simp only at ho;subst ho
 intro φ ρ w r R hid hnone
 obtain ⟨z1,z2⟩:=zslice_ok (φ:=φ) hv (.inl hzs)
 have hsT:sizeT P el=i.size:=by unfold sizeT;rw [hi]
 have z0:((Array.range (len*i.size)).map (z.cells[· % z.cells.size]!)).toList=(List.range (len*i.size)).map fun j=>z.cells[j % z.cells.size]!:=by simp
 obtain ⟨l',cs',h0,h2,h3,h4,h5⟩:=parts_ok r _ v ((Array.range (len*i.size)).map (z.cells[· % z.cells.size]!)) _ hm (by rw [z0];exact z1) (by rw [z0];exact z2)
 obtain ⟨hle,h1⟩:=both_true h0
 have hle:=ble_true hle
 have hleL:len*i.size≤17179869184:=by omega
 have hcl:cs'.size=len*i.size:=by rw [h4];simp
 obtain ⟨p1,c',p2,p3,p4,p5⟩:=lay_true l' (len*i.size) 0 (fresh (len*i.size)) _ _ h1 h3 (by rw [Nat.zero_add];exact acap_fresh _ hleL)
 obtain ⟨R',X⟩:=R.new hid (Nat.le_refl _) R.next hnone (T:=h.tr) (c:=c') (n:=len*i.size) (frz:=0) (elem:=el) (ex:=true) (cs:=cs') (fr:=(0,0)) (base:=0) (B:=w.heap.size) (w':=w.alloc (.cells cs' el)) (fun _ _=>.inl rfl)
  (by rw [p3];exact acap_fresh _ hleL) (by omega) (fun j hj=>by
   have hjl:j<cs'.toList.length:=by rw [Array.length_toList,hcl];exact hj
   have hx:cs'.toList[j]?=some (cs'.toList[j]'hjl):=List.getElem?_eq_getElem hjl
   refine ⟨cs'.toList[j]'hjl,by rw [Nat.zero_add,← Array.getElem?_toList];exact hx,?_,h5 _ (List.getElem_mem _)⟩
   have:=p5 j _ hx
   rw [Nat.zero_add] at this;exact this) (fun _=>⟨rfl,hcl.symm⟩) (fun j _ _=>by simp) (push_new _ _) (by simp) (fun j hj _=>push_old _ _ _ hj) rfl rfl rfl (.inr (Nat.le_refl _))
 have e1:(fun j=>((some (j*i.size,el):Option (Nat×TypeId))).map fun p=>(p.1,sizeT P p.2))=(fun j=>(some (j*i.size,i.size):Option (Nat×Nat))):=by
  funext j;simp [hsT]
 have e2:(ps.map fun (i,x)=>(i,ρ x)).toList=ps.toList.map fun p=>(p.1,ρ p.2):=by simp
 rw [e1,← e2] at h2
 have hrun:=run_value (Instr.buildSlice t len (ps.map fun (i,x)=>(i,ρ x))) _ _ _ (run_buildSlice ht hi hz (by omega) w h2)
 refine ⟨.slice (some ⟨w.heap.size,0,none⟩) len len,_,hrun,_,_,_,p2,?_,R',X,fun i v hi=>Phi.add_other _ _ (fun z=>hi z.1)⟩
 refine RV.sl (l:=⟨w.heap.size,0,len*i.size,cs'.size⟩) (Phi.add_same _ _ _ _) ?_ (Nat.le_refl _) (fun _=>rfl) ?_
 ·show 0+len*i.size≤len*i.size
  omega
 ·show 0+0+len*i.size≤cs'.size
  omega
theorem aget_afill (i n:Nat) (v:V) (hi:i<acap (afill n v)):aget i (afill n v)=v:=by
 unfold afill at hi ⊢
 cases h:Nat.ble n 8 with
 | true=>rw [bs_true];exact sel8_n8 _ _
 | false=>
  rw [h,bs_false] at hi
  rw [bs_false]
  cases h2:Nat.ble n 4096 with
  | true=>
   rw [h2,bs_true] at hi
   rw [bs_true]
   show aget4 i _=v
   rw [aget4_eq _ _ hi,sel8_n8,sel8_n8,sel8_n8,sel8_n8]
  | false=>rfl
theorem acap_afill (n:Nat) (v:V) (hn:n≤17179869184):n≤acap (afill n v):=by
 unfold afill
 cases h:Nat.ble n 8 with
 | true=>exact ble_true h
 | false=>
  rw [bs_false]
  cases h2:Nat.ble n 4096 with
  | true=>exact ble_true h2
  | false=>exact Nat.le_refl _
theorem mksl_ok {o:Oper} {t el:TypeId} {x y:Operand} {i:TypeInfo} {z:Value} {v:V} {id:Nat} {h:H} {k:KV} (hm:bi q x y (fun a b=>mkslA id el v a b h k)=true) (ho:o.op=.makeSlice t x y) (ht:P.underlying t=some (.slice el)) (hi:P.info? el=some i) (hz:i.zero=some z) (hv:absV z=some v)
  (h1:i.size=1) (h2:i.bytes≤4096) (h3:z.oneCell'=true):AopS P q o id h k:=by
 obtain ⟨dst,op',ty,pos,aft,grd⟩:=o
 simp only at ho;subst ho
 intro φ ρ w r R hid hnone
 obtain ⟨a,b,hx,hy,hm1⟩:=bi_true hm
 obtain ⟨q1,n,e1,hm2⟩:=onIx_true hm1 (r _ _ hx)
 obtain ⟨q2,m,e2,hm3⟩:=onIx_true hm2 (r _ _ hy)
 obtain ⟨h4,hm4⟩:=both_true hm3
 obtain ⟨h5,hm5⟩:=both_true hm4
 obtain rfl:=beq_true h4
 have h5:=ble_true h5
 have h5L:n≤17179869184:=by omega
 have hzc:z.cells=#[z]:=by cases z <;> first | rfl | simp [Value.oneCell'] at h3
 have hcs:∀ j,j<n→(madeCells z.cells (n*i.size))[j]?=some z:=fun j hj=>by
  unfold madeCells
  rw [hzc,h1]
  simp [hj,Nat.mod_one]
 have hby:(i.bytes:Int)*(n:Int)≤281474976710656:=by
  have h6:i.bytes*n≤4096*16777216:=Nat.mul_le_mul h2 h5
  have h7:((i.bytes*n:Nat):Int)≤70368744177664:=by omega
  rw [Int.natCast_mul] at h7;omega
 have hsz:(madeCells z.cells (n*i.size)).size=n:=by rw [size_madeCells,h1,Nat.mul_one]
 obtain ⟨R',X⟩:=R.new hid (Nat.le_refl _) R.next hnone (T:=h.tr) (c:=afill n v) (n:=n) (frz:=0) (elem:=el) (ex:=true) (cs:=madeCells z.cells (n*i.size)) (fr:=(0,0)) (base:=0) (B:=w.heap.size) (w':=w.alloc (.cells (madeCells z.cells (n*i.size)) el)) (fun _ _=>.inl rfl)
  (acap_afill _ _ h5L) (by omega) (fun j hj=>⟨z,by rw [Nat.zero_add];exact hcs j hj,by rw [aget_afill _ _ _ (by have:=acap_afill n v h5L;omega)];exact absV_ok φ z v hv,h3⟩) (fun _=>⟨rfl,hsz.symm⟩) (fun j _ _=>by simp) (push_new _ _) (by simp) (fun j hj _=>push_old _ _ _ hj) rfl rfl rfl (.inr (Nat.le_refl _))
 refine ⟨_,_,run_value (Instr.makeSlice t (ρ x) (ρ y)) _ _ _ (by rw [e1,e2];exact run_makeSlice w t el i z ht hi hz q1 q2 n n (by omega) (by omega) (by rw [h1];omega) hby (by omega)),_,_,_,hm5,?_,R',X,fun i v hi=>Phi.add_other _ _ (fun z=>hi z.1)⟩
 refine RV.sl (l:=⟨w.heap.size,0,n,_⟩) (Phi.add_same _ _ _ _) (by show 0+n*1≤n;omega) (Nat.le_refl _) (fun _=>rfl) ?_
 show 0+0+n*1≤(madeCells z.cells (n*i.size)).size
 omega
theorem RL.one {φ:Phi}:∀ {l:V} {cs:List Value},RL φ l cs→∀ (n:Nat) (k:V→Bool),vdrop l n k=true→∃ r,k r=true∧RL φ r (cs.drop n)∧n≤cs.length
 | _,_,.nil,n,k,h=>by
  cases n with
  | zero=>exact ⟨_,h,.nil,by simp⟩
  | succ n=>exact Bool.noConfusion (show false=true from h)
 | _,_,.cons ha hb,n,k,h=>by
  cases n with
  | zero=>exact ⟨_,h,.cons ha hb,by simp⟩
  | succ n=>
   obtain ⟨r,e1,e2,e3⟩:=RL.one hb n k h
   exact ⟨r,e1,by simpa using e2,by simp;omega⟩
theorem RL.take {φ:Phi}:∀ {l:V} {cs:List Value},RL φ l cs→∀ (n:Nat) (k:V→Bool),vtake l n k=true→∃ r,k r=true∧RL φ r (cs.take n)∧n≤cs.length
 | _,_,.nil,n,k,h=>by
  cases n with
  | zero=>exact ⟨_,h,.nil,by simp⟩
  | succ n=>exact Bool.noConfusion (show false=true from h)
 | _,_,.cons ha hb,n,k,h=>by
  cases n with
  | zero=>exact ⟨_,h,.nil,by simp⟩
  | succ n=>
   obtain ⟨r,e1,e2,e3⟩:=RL.take hb n _ h
   exact ⟨_,e1,by simpa using RL.cons ha e2,by simp;omega⟩
theorem field_fun {t:TypeId} {fs:Array Field} {q:Field} {f:Nat} (ht:P.underlying t=some (.struct fs)) (hf:fs[f]?=some q) (hq:hasT P q.type=true):Fun1 P (fieldV (oneT P q.type) q.offset (sizeT P q.type)) (fun v=>Instr.field t v f):=by
 intro φ x k h c hc w
 obtain ⟨l,b,rfl,h2⟩:=onAgg_true h
 obtain ⟨d,hd⟩:=hasT_under hq
 obtain ⟨i,hi⟩:=under_info hd
 cases hc with
 | agg hl ho=>
  rename_i cs
  obtain ⟨r,h3,h4,h5⟩:=hl.one q.offset _ h2
  have hrun:∀ v,(Go.part q.type ⟨cs⟩ q.offset).run P w=.ok v w→(Instr.field t (.agg ⟨cs⟩) f).run P w=.ok v w:=fun v hv=>by
   unfold Instr.field
   rw [Sem.run_bind,run_under ht]
   simp only [Result.andThen_ok,hf]
   rw [Sem.run_bind]
   show ((pure (⟨cs⟩ : Array Value):Sem _).run P w).andThen _=_
   rw [Sem.run_pure];exact hv
  cases hone:oneT P q.type with
  | true=>
   rw [hone] at h3
   obtain ⟨x,c,e1,e2,e3⟩:=vnth_true r 0 k _ h3 h4
   refine ⟨x,c,hrun c ?_,e2,e3⟩
   unfold Go.part
   rw [Sem.run_bind,run_isAgg hd,hone]
   have:(⟨cs⟩ : Array Value)[q.offset]?=some c:=by
    have:=e1;rw [List.getElem?_drop] at this;simpa using this
   show (match (⟨cs⟩ : Array Value)[q.offset]? with | some v=>pure v | none=>stuck "part: no such cell" : Sem Value).run P w=_
   rw [this];rfl
  | false=>
   rw [hone] at h3
   obtain ⟨r2,e1,e2,e3⟩:=h4.take (sizeT P q.type) _ h3
   have hx:((⟨cs⟩ : Array Value).extract q.offset (q.offset+sizeT P q.type))=⟨(cs.drop q.offset).take (sizeT P q.type)⟩:=by
    apply Array.ext'
    simp [List.extract_eq_take_drop]
   refine ⟨_,.agg ⟨(cs.drop q.offset).take (sizeT P q.type)⟩,hrun _ ?_,.agg e2 (fun v hv=>ho v (List.mem_of_mem_drop (List.mem_of_mem_take hv))),e1⟩
   unfold Go.part
   rw [Sem.run_bind,run_isAgg hd,hone]
   show (do pure (.agg ((⟨cs⟩ : Array Value).extract q.offset (q.offset+(← sizeOf q.type)))):Sem Value).run P w=_
   rw [Sem.run_bind,run_size hi]
   simp only [Result.andThen_ok]
   rw [hx];rfl
theorem mkf_ok {o:Oper} {f:Nat} {xs ys:Array Operand} {l m:V} {k:V→Bool} (hk:k (.x (.func f) l m)=true) (ho:o.op=.makeFunc (.func f) xs ys) (hl:oprs q xs.toList=some l) (hm:oprs q ys.toList=some m):PopS P q o k:=by
 obtain ⟨dst',op',ty,pos,aft,grd⟩:=o
 simp only at ho;subst ho
 intro φ ρ hh w r R
 refine ⟨_,.func (.func f) ⟨xs.toList.map ρ⟩ ⟨ys.toList.map ρ⟩,?_,.func (oprs_ok r _ _ hl) (oprs_ok r _ _ hm),hk⟩
 have e1:(⟨xs.toList.map ρ⟩ : Array Value)=xs.map ρ:=by apply Array.ext';simp
 have e2:(⟨ys.toList.map ρ⟩ : Array Value)=ys.map ρ:=by apply Array.ext';simp
 rw [e1,e2]
 exact run_value (Instr.makeFunc (.func f) (xs.map ρ) (ys.map ρ)) _ _ _ rfl
theorem mki_ok {o:Oper} {t:TypeId} {x:Operand} {d:TypeDesc} {k:V→Bool} (hm:un q x (fun a=>k (.x (.iface t) a V.nil))=true) (ho:o.op=.makeInterface t x) (ht:P.underlying t=some d) (hd:∀ m,d≠.interface m):PopS P q o k:=by
 obtain ⟨dst',op',ty,pos,aft,grd⟩:=o
 simp only at ho;subst ho
 intro φ ρ hh w r R
 obtain ⟨g,hx,hk⟩:=un_true hm
 refine ⟨_,.iface t (ρ x),run_value (Instr.makeInterface t (ρ x)) _ _ _ ?_,.iface (r _ _ hx),hk⟩
 unfold Instr.makeInterface
 rw [Sem.run_bind,run_under ht]
 cases d <;> first | rfl | exact absurd rfl (hd _)
theorem maxmin_fun {f:Nat→Nat→Nat} {fz:IntKind→Int→Int→(V→Bool)→Bool} {F:Value→Value→Sem Value} {c:Int→Int→Int} (hF:∀ k x y,F (.int k x) (.int k y)=pure (.int k (c x y))) (hc:∀ (a b:Nat) (d:Int),c ((a:Int)-d) ((b:Int)-d)=(f a b:Int)-d) (hlt:∀ a b m,a<m→b<m→f a b<m)
  (hz:∀ q a b k,fz q a b k=k (mkI q (c a b))):Fun2 P (arith (fun a b k=>k (.w (f a b))) (fun a b k=>k (.y (f a b))) fz) F:=by
 intro φ x y k h u d hu hd w
 rcases arith_true h with ⟨n,m,rfl,rfl,hk⟩ | ⟨n,m,rfl,rfl,hk⟩ | ⟨q,n,m,_,_,_,_,rfl,rfl,hk⟩ <;> clear h
 ·obtain ⟨hn,rfl⟩:=hu.inv_w;obtain ⟨hm,rfl⟩:=hd.inv_w
  refine ⟨_,_,by rw [hF];rfl,?_,hk⟩
  rw [hc];exact .w (hlt _ _ _ hn hm)
 ·obtain ⟨hn,rfl⟩:=hu.inv_y;obtain ⟨hm,rfl⟩:=hd.inv_y
  refine ⟨_,_,by rw [hF];rfl,?_,hk⟩
  have:=hc n m 0
  simp only [Int.sub_zero] at this
  rw [this];exact .y (hlt _ _ _ hn hm)
 ·obtain ⟨h1,h2,rfl⟩:=hu.inv_int;obtain ⟨_,_,rfl⟩:=hd.inv_int
  rw [hz] at hk
  exact ⟨_,_,by rw [hF];rfl,RV.mkI h1 h2,hk⟩
theorem max_fun:Fun2 P maxV Builtin.max2:=maxmin_fun (c:=fun x y=>if y>x then y else x) (fun _ _ _=>rfl)
 (fun a b d=>by by_cases h:a+1≤b <;> simp [bs_ite,Nat.ble_eq,h] <;> omega) (fun a b m h1 h2=>by simp only [bs_ite];split <;> assumption) (fun _ _ _ _=>rfl)
theorem min_fun:Fun2 P minV Builtin.min2:=maxmin_fun (c:=fun x y=>if y<x then y else x) (fun _ _ _=>rfl)
 (fun a b d=>by by_cases h:b+1≤a <;> simp [bs_ite,Nat.ble_eq,h] <;> omega) (fun a b m h1 h2=>by simp only [bs_ite];split <;> assumption) (fun _ _ _ _=>rfl)
theorem mm_ok {o:Oper} {b:Builtin} {x y:Operand} {xs:Array Operand} {ts:Array TypeId} {f:V→V→(V→Bool)→Bool} {F:Value→Value→Sem Value} {k:V→Bool} (hm:bi q x y (fun a b=>f a b k)=true) (ho:o.op=.call ⟨.builtin b,xs,ts⟩) (hxs:xs.toList=[x,y]) (hf:Fun2 P f F)
  (hb:b=.max∧F=Builtin.max2∨b=.min∧F=Builtin.min2):PopS P q o k:=by
 obtain ⟨dst',op',ty,pos,aft,grd⟩:=o
 simp only at ho;subst ho
 obtain rfl:=args_two hxs
 refine PopS.fun2 (f:=f) hm hf fun ρ w c h=>?_
 rcases hb with ⟨rfl,rfl⟩ | ⟨rfl,rfl⟩ <;> simp [execOp,resolve,invoke,builtin,Builtin.max_,Builtin.min_,h]
end Go.Bvm
