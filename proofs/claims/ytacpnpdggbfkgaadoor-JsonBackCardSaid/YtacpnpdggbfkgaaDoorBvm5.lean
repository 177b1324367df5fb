/- The abstract machine: steps that are taken whole; blocks of memory run on values that are not all known. Conditions: stated in each theorem. -/
import Derived.Test.YtacpnpdggbfkgaaDoorBvm4
import Derived.LaidHandle
import Derived.Lib.LaidTab
import Derived.Lib.ItoaNum
import Derived.Sort.Grow
import Derived.Deep.Draws
import Derived.LaidSub
set_option linter.unusedVariables false
set_option linter.unusedSimpArgs false
set_option linter.unusedVariables false
namespace Go.Bvm
open Go.RowKit (Below)
variable {P:Program} {G:Nat→Bool}
inductive Chn (W F:Nat) (w:World) (e:Addr):Value→Nat→Prop
 | base:Chn W F w e (.iface F (.pointer (some e))) 0
 | step {b o n:Nat} {v:Value}:w.cell? ⟨b,o+1,none⟩=some v→Chn W F w e v n→Chn W F w e (.iface W (.pointer (some ⟨b,o,none⟩))) (n+1)
theorem Chn.one {W F:Nat} (hWF:W≠F) {w:World} {e:Addr} {v:Value} {n m:Nat} (h:Chn W F w e v n) (k:Chn W F w e v m):n=m:=by
 induction h generalizing m with
 | base=>cases k with
  | base=>rfl
  | step=>exact absurd rfl hWF
 | step hc _ ih=>cases k with
  | base=>exact absurd rfl hWF
  | step hc' k=>rw [hc] at hc';cases hc';rw [ih k]
theorem as_lt {w:World} {a:Addr} {v:Value} (h:w.cell? a=some v):a.block<w.heap.size:=by
 rcases Nat.lt_or_ge a.block w.heap.size with k | k
 ·exact k
 ·simp [World.cell?,Array.getElem?_eq_none k] at h
theorem Chn.mono {W F:Nat} {w w':World} {e:Addr} {v:Value} {n:Nat} (h:Chn W F w e v n) (k:∀ a:Addr,a.block<w.heap.size→w'.cell? a=w.cell? a):Chn W F w' e v n:=by
 induction h with
 | base=>exact .base
 | step hc _ ih=>exact .step ((k _ (as_lt hc)).trans hc) ih
noncomputable section
end
theorem RetG.onPin {α:Type} {b:Blk} {f:Nat→Nat→Nat→(α→Bool)→Bool} (h:∀ a b c,RetG (f a b c)):RetG (fun k=>Bvm.onPin b fun x y z=>f x y z k):=by
 cases b <;> first | exact .no | exact h _ _ _
theorem FrmAt.onPin {α:Type} {r:Nat} {h:H} {id:Nat} {f:Nat→Nat→Nat→H→(α→H→Bool)→Bool} (hk:Kept r h) (hf:∀ a b c,FrmAt r (f a b c) h):FrmAt r (fun h k=>Bvm.onPin (hget id h.tr) fun a b c=>f a b c h k) h:=by
 cases e:hget id h.tr with
 | pin a b c=>
  have hne:=hk.ne (id:=id) (by rw [e];simp)
  rcases hf a b c with e2 | ⟨u,h1,e2,k1,e3⟩
  ·exact .inl fun k=>by dsimp only;rw [e];exact e2 k
  ·exact .inr ⟨u,h1,fun k=>by dsimp only;rw [e];exact e2 k,k1,fun b' k=>by dsimp only;rw [Kept.ins_get hne,e];exact e3 b' k⟩
 | nb=>exact .inl fun k=>by dsimp only;rw [e];rfl
 | mp _=>exact .inl fun k=>by dsimp only;rw [e];rfl
 | it _ _ _=>exact .inl fun k=>by dsimp only;rw [e];rfl
 | bk _ _ _ _ _ _ _=>exact .inl fun k=>by dsimp only;rw [e];rfl
noncomputable def pinPhi (f:Nat→Option Nat):Phi:=fun i v=>if v=0 then (f i).map fun sz=>⟨i,0,sz,sz⟩ else none
def PinsAt (L:List (Nat×Nat×Nat×Nat)) (w:World):Prop:=∀ x,x∈L→∃ el fr,w.heap[x.1]?=some (.cells (pinA x.2.1 x.2.2.1 x.2.2.2) el fr)
noncomputable def pinsM (L:List (Nat×Nat×Nat×Nat)):Mem:=L.map fun x=>(x.1,.pin x.2.1 x.2.2.1 x.2.2.2)
theorem Rel.startL {w:World} {L:List (Nat×Nat×Nat×Nat)} {f:Nat→Option Nat} {n:Nat} (hn:0≤n) (hL:PinsAt L w) (hlt:∀ x,x∈L→x.1<n) (hf:∀ g sz,f g=some sz→∃ x,x∈L∧x.1=g) (hf2:∀ x,x∈L→(f x.1).isSome=true):Rel (pinPhi f) ⟨n,putM (pinsM L) t6⟩ w:=by
 have hmem:∀ y:Nat×Blk,y∈pinsM L→∃ x,x∈L∧y=(x.1,.pin x.2.1 x.2.2.1 x.2.2.2):=fun y hy=>by
  obtain ⟨x,hx,rfl⟩:=List.mem_map.1 hy
  exact ⟨x,hx,rfl⟩
 have hlt':∀ y,y∈pinsM L→0≤y.1:=fun y hy=>by
  obtain ⟨x,hx,rfl⟩:=hmem y hy
  have:=hlt x hx
  show 0≤x.1;omega
 have own:∀ i,0≤i→owns (hget i (putM (pinsM L) t6))=false:=fun i hi=>by
  rcases lookL (pinsM L) i with ⟨b,h1,h2,_⟩ | ⟨_,h2,_⟩
  ·rw [h2 _ hlt' hi]
   obtain ⟨x,_,e⟩:=hmem _ h1
   cases e;rfl
  ·rw [h2 _ hlt' hi,hget_t6];rfl
 refine ⟨hn,fun id v l h=>?_,fun id hid=>?_,fun i j hi _ _ ho=>?_⟩
 ·unfold pinPhi at h
  split at h
  ·rename_i e
   cases hq:f id with
   | none=>rw [hq] at h;simp at h
   | some sz=>
    rw [hq] at h
    obtain rfl:=Option.some.inj h
    obtain ⟨x,hx,rfl⟩:=hf _ _ hq
    obtain ⟨el,fr,e2⟩:=hL x hx
    exact ⟨hlt x hx,(Array.getElem?_eq_some_iff.1 e2).1,by show 0+sz≤sz;omega⟩
  ·simp at h
 ·show BlkOk _ _ _ (hget id (putM (pinsM L) t6))
  rcases lookL (pinsM L) id with ⟨b,h1,h2,_⟩ | ⟨_,h2,_⟩
  ·rw [h2 _ hlt' hid]
   obtain ⟨x,hx,e⟩:=hmem _ h1
   cases e
   obtain ⟨el,fr,e2⟩:=hL x hx
   cases hq:f x.1 with
   | none=>have:=hf2 x hx;rw [hq] at this;simp at this
   | some sz=>exact ⟨⟨x.1,0,sz,sz⟩,el,fr,by unfold pinPhi;rw [if_pos rfl,hq];rfl,rfl,e2,fun v hv=>by unfold pinPhi;rw [if_neg (by omega)]⟩
  ·rw [h2 _ hlt' hid,hget_t6];trivial
 ·dsimp only at ho
  rw [own i hi] at ho;simp at ho
section
open Go.ChangeShapes Go.WideShapes Go.ChangeAt Go.RowKit
end
theorem pin_of_tab {P:Program} {g b c:Nat} {W:World} (h:Lib.TabIs P W "internal/strconv.uint64pow10" .u64 Lib.pow10Tab) (hg:P.globalNamed "internal/strconv.uint64pow10" = some g):∃ el fr,W.heap[g]?=some (.cells (pinA 0 b c) el fr):=by
 unfold Lib.TabIs World.var? at h
 rw [hg] at h
 simp only [Option.bind_some] at h
 cases hq:W.heap[g]? with
 | none=>rw [hq] at h;simp at h
 | some o=>
  rw [hq] at h
  cases o with
  | cells cs el fr=>
   simp only [Option.some.injEq] at h
   exact ⟨el,fr,by rw [h];rfl⟩
  | _=>simp at h
end Go.Bvm
set_option linter.unusedVariables false
namespace Go.Bvm
open Go.RowKit (Below)
variable {P:Program} {G:Nat→Bool}
def TenC (P:Program) (f:Nat):Prop:=∀ (n:Int) (w:World),-9223372036854775808≤n→n≤9223372036854775807→Lib.TabIs P w "internal/strconv.uint64pow10" .u64 Lib.pow10Tab→
 Calls P f #[.int .i64 n] w fun e w'=>e=.returned (.string ⟨(Lib.itoa n).toArray⟩)∧Below w.heap.size w w'
noncomputable section
def tenN (k:Nat→Nat→Bool):(fuel m acc l:Nat)→Bool:=Nat.rec (motive:=fun _=>Nat→Nat→Nat→Bool) (fun _ _ _=>false)
 (fun _ ih m acc l=>bs (Nat.ble m 9) (k (Nat.succ l) (Nat.add (Nat.add 48 m) (Nat.mul 256 acc))) (ih (Nat.div m 10) (Nat.add (Nat.add 48 (Nat.mod m 10)) (Nat.mul 256 acc)) (Nat.succ l)))
def extTen (fu g:Nat) (l:V) (h:H) (k:KV):Bool:=onCons l fun a r=>onNil r (onW a fun m=>onPin (hget g h.tr) fun p _ _=>both (Nat.beq p 0) (bs (Nat.ble bias m) (tenN (fun l n=>k (.s l n) h) fu (Nat.sub m bias) 0 0) (tenN (fun l n=>k (.s (Nat.succ l) (Nat.add 45 (Nat.mul 256 n))) h) fu (Nat.sub bias m) 0 0)))
end
theorem pack_cons (b:UInt8) (l:List UInt8):pack (b::l)=b.toNat+256*pack l:=rfl
theorem tenN_true {k:Nat→Nat→Bool}:∀ (fuel m:Nat) (rest:List UInt8),tenN k fuel m (pack rest) rest.length=true→k (Lib.decDigits m++rest).length (pack (Lib.decDigits m++rest))=true
 | 0,_,_,h=>Bool.noConfusion (show false=true from h)
 | fuel+1,m,rest,h=>by
  have h:bs (Nat.ble m 9) (k (Nat.succ rest.length) (Nat.add (Nat.add 48 m) (Nat.mul 256 (pack rest)))) (tenN k fuel (Nat.div m 10) (Nat.add (Nat.add 48 (Nat.mod m 10)) (Nat.mul 256 (pack rest))) (Nat.succ rest.length))=true:=h
  by_cases hm:m<10
  ·rw [show Nat.ble m 9=true from Nat.ble_eq_true_of_le (by omega),bs_true] at h
   rw [Lib.decDigits,dif_pos hm]
   have e:(UInt8.ofNat (48+m)).toNat=48+m:=by simp;omega
   rw [List.singleton_append,pack_cons,e,List.length_cons]
   exact h
  ·have hb:Nat.ble m 9=false:=by
    cases hq:Nat.ble m 9 with
    | true=>exact absurd (ble_true hq) (by omega)
    | false=>rfl
   rw [hb,bs_false] at h
   have e:(UInt8.ofNat (48+m % 10)).toNat=48+m % 10:=by simp;omega
   have h2:=tenN_true fuel (m / 10) (UInt8.ofNat (48+m % 10)::rest) (by rw [pack_cons,e,List.length_cons];exact h)
   rw [Lib.decDigits,dif_neg hm,List.append_assoc,List.singleton_append]
   exact h2
theorem tenN_ret {α:Type} {f:Nat→Nat→(α→Bool)→Bool} (hf:∀ a b,RetG (f a b)):∀ (fuel m acc l:Nat),RetG (fun k=>tenN (fun a b=>f a b k) fuel m acc l)
 | 0,_,_,_=>.no
 | fuel+1,m,acc,l=>.bs (hf _ _) (tenN_ret hf fuel _ _ _)
theorem Below.grow {B:Nat} {a w:World} (h:Below B a w) (hB:B≤w.heap.size) (os:Array Obj):Below B a (Go.Sort.grow w os):=
 h.trans ⟨rfl,rfl,rfl,by simp [Go.Sort.grow],fun k hk=>by simp only [Go.Sort.grow];rw [Array.getElem?_append_left (by omega)]⟩
theorem Below.drewN {B:Nat} {a w:World} (h:Below B a w) (n:Nat):Below B a (w.drewN n):=h.trans ⟨rfl,rfl,rfl,Nat.le_refl _,fun _ _=>rfl⟩
theorem EntOk.ten (fu:Nat) {f g:Nat} {gl:Global} (hgl:P.globals[g]?=some gl) (hnm:P.globalNamed "internal/strconv.uint64pow10" = some g) (hG:G g=true) (hlt:0≤g) (hent:∀ (args:Array Value) (w:World),(callFunc f args).run P w=.ok (.enter f args) w) (hC:TenC P f):EntOk P G f (fun _=>extTen fu g) where
 ok:=fun cf _ _ _ l h k hm φ w args hg hl R=>by
  obtain ⟨a,r,h1,hm1⟩:=onCons_true hm
  rw [h1] at hl
  cases hl with
  | cons ha hr=>
  obtain ⟨_,_,h2,hm2⟩:=onNil_true hm1
  rw [h2] at hr
  cases hr
  obtain ⟨m,e1,hm3⟩:=onW_true hm2
  rw [e1] at ha
  obtain ⟨hm18,rfl⟩:=ha.inv_w
  obtain ⟨p,_,_,e2,hm3⟩:=onPin_true hm3
  obtain ⟨h3,hm4⟩:=both_true hm3
  obtain rfl:=beq_true h3
  obtain ⟨lg,g1,g2,g3,_⟩:=hg g gl hG hgl
  have hblk:=R.blk g hlt
  rw [e2] at hblk
  obtain ⟨l',el,fr,a1,a2,a3,_⟩:=hblk
  rw [g1] at a1
  obtain rfl:=Option.some.inj a1
  rw [g2] at a3
  have htab:Lib.TabIs P w "internal/strconv.uint64pow10" .u64 Lib.pow10Tab:=by
   unfold Lib.TabIs World.var?
   rw [hnm]
   simp only [Option.bind_some,a3]
   rfl
  refine .inr (.inr ⟨f,_,hent _ w,?_⟩)
  refine (hC ((m:Int)-9223372036854775808) w (by omega) (by omega) htab).mono ?_
  rintro e w' ⟨rfl,hB⟩
  obtain ⟨R',X⟩:=R.belowW hB
  have fin:∀ (s:List UInt8),k (.s s.length (pack s)) h=true→Lib.itoa ((m:Int)-9223372036854775808)=s→∃ c,Ending.returned (.string ⟨(Lib.itoa ((m:Int)-9223372036854775808)).toArray⟩)=.returned c∧FPost k φ h w c w':=fun s hk hs=>by
   rw [hs]
   exact ⟨_,rfl,_,h,φ,hk,.s (by simp [ByteArray.size]) (by simp),R',X⟩
  cases hq:Nat.ble bias m with
  | true=>
   rw [hq,bs_true] at hm4
   have hb:=ble_true hq
   have h5:=tenN_true fu (m-bias) [] hm4
   rw [List.append_nil] at h5
   refine fin _ h5 ?_
   unfold Lib.itoa
   rw [if_neg (by unfold bias at hb;omega)]
   have e:((m:Int)-9223372036854775808).toNat=m-bias:=by unfold bias;omega
   rw [e]
  | false=>
   rw [hq,bs_false] at hm4
   have hb:¬ bias≤m:=fun hb=>by rw [Nat.ble_eq_true_of_le hb] at hq;simp at hq
   have h5:=tenN_true (k:=fun l n=>k (.s (Nat.succ l) (Nat.add 45 (Nat.mul 256 n))) h) fu (bias-m) [] hm4
   rw [List.append_nil] at h5
   refine fin (45::Lib.decDigits (bias-m)) h5 ?_
   unfold Lib.itoa
   rw [if_pos (by unfold bias at hb;omega)]
   have hb':bias=9223372036854775808:=rfl
   have e:((m:Int)-9223372036854775808).natAbs=bias-m:=by rw [hb'] at hb ⊢;omega
   rw [e]
 ret:=fun cf _ l h=>.onCons fun a r=>.onNil (.onW fun m=>.onPin fun p _ _=>.both (.bs (tenN_ret (fun _ _=>.k _) _ _ _ _) (tenN_ret (fun _ _=>.k _) _ _ _ _)))
 frm:=fun cf _ r l h hk=>.onCons fun a q=>.onNil (.onW fun m=>.onPin hk fun p _ _=>.both (c:=fun _=>Nat.beq p 0) (fun _=>rfl) fun _=>
  .bs (FrmAt.pure (α:=V) (G:=fun k=>tenN (fun l n=>k (V.s l n)) fu (Nat.sub m bias) 0 0) (tenN_ret (f:=fun l n (k:V→Bool)=>k (V.s l n)) (fun _ _=>.k _) _ _ _ _) hk)
   (FrmAt.pure (α:=V) (G:=fun k=>tenN (fun l n=>k (V.s (Nat.succ l) (Nat.add 45 (Nat.mul 256 n)))) fu (Nat.sub bias m) 0 0) (tenN_ret (f:=fun l n (k:V→Bool)=>k (V.s (Nat.succ l) (Nat.add 45 (Nat.mul 256 n)))) (fun _ _=>.k _) _ _ _ _) hk))
def pinG (L:List (Nat×Nat×Nat×Nat)) (x:Nat):Bool:=L.any fun y=>Nat.beq y.1 x
noncomputable def pinSz (L:List (Nat×Nat×Nat×Nat)) (x:Nat):Option Nat:=if pinG L x=true then some 64 else none
theorem tab_of_laid {P:Program} {laid:List (String×DataW Unit)} {W:World} (h:laidMetH P laid W) (hf:laid.filter (fun x=>x.1 == "internal/strconv.uint64pow10")=[("internal/strconv.uint64pow10",Lib.tabData .u64 Lib.pow10Tab)]):laidMet P [("internal/strconv.uint64pow10",Lib.tabData .u64 Lib.pow10Tab)] W:=by
 have:=laidMetH.filter (fun x=>x.1 == "internal/strconv.uint64pow10") h
 rw [hf] at this
 exact this
end Go.Bvm
set_option linter.unusedVariables false
namespace Go.Bvm
noncomputable def wz (n:Int):V:=.w (n+9223372036854775808).toNat
noncomputable def vy (b:UInt8):V:=.y b.toNat
noncomputable def vs (s:List UInt8):V:=.s s.length (pack s)
noncomputable def vl (l:List V):V:=l.foldr (fun a r=>.x .cons a r) V.nil
@[simp] theorem vl_nil:vl []=V.nil:=(Eq.refl _).trans rfl
theorem vl_cons (a:V) (l:List V):vl (a::l)=.x .cons a (vl l):=rfl
@[simp] theorem onCons_cons (a b:V) (k:V→V→Bool):onCons (.x .cons a b) k=k a b:=(Eq.refl _).trans rfl
@[simp] theorem onCons_vc (a b:V) (k:V→V→Bool):onCons (vc a b) k=k a b:=(Eq.refl _).trans rfl
@[simp] theorem onNil_nil (k:Bool):onNil V.nil k=k:=(Eq.refl _).trans rfl
@[simp] theorem nilckV_p (a b c d:Nat) (k:V→Bool):nilckV (.p a b c d) k=k (.p a b c d):=(Eq.refl _).trans rfl
@[simp] theorem fadV_p (o id off lim ver:Nat) (k:V→Bool):fadV o (.p id off lim ver) k=k (.p id (off+o) lim ver):=(Eq.refl _).trans rfl
@[simp] theorem condV_t (b:Bool) (x y:Bool):condV (.t b) x y=bs b x y:=(Eq.refl _).trans rfl
@[simp] theorem notV_t (b:Bool) (k:V→Bool):notV (.t b) k=k (.t (!b)):=by cases b <;> rfl
@[simp] theorem pickV_t (b:Bool) (x y:V) (k:V→Bool):pickV (.t b) x y k=k (bs b x y):=(Eq.refl _).trans rfl
@[simp] theorem gT_t (h:H) (f:KV→Bool) (k:KV):guardT (.t true) h f k=f k:=(Eq.refl _).trans rfl
@[simp] theorem gT_f (h:H) (f:KV→Bool) (k:KV):guardT (.t false) h f k=k V.u h:=(Eq.refl _).trans rfl
@[simp] theorem gF_t (h:H) (f:KV→Bool) (k:KV):guardF (.t true) h f k=k V.u h:=(Eq.refl _).trans rfl
@[simp] theorem gF_f (h:H) (f:KV→Bool) (k:KV):guardF (.t false) h f k=f k:=(Eq.refl _).trans rfl
@[simp] theorem seqM_eq (m n:M) (e:L8) (h:H) (K:KX):seqM m n e h K=m e h (fun x e' h'=>X.rec (motive:=fun _=>Bool) (n e' h' K) (fun i=>K (.x i) e' h') (K .r e' h') x):=(Eq.refl _).trans rfl
@[simp] theorem resv_eq {n:Nat} {h:H} (k:Nat→H→Bool):resv n h k=k h.next ⟨h.next+n,h.tr⟩:=by
 unfold resv
 rw [show Nat.ble 0 (Nat.add h.next n)=true from Nat.ble_eq_true_of_le (Nat.zero_le _)]
 rfl
@[simp] theorem both_t (k:Bool):both true k=k:=(Eq.refl _).trans rfl
theorem bothd {p:Prop} [Decidable p] (h:p) (k:Bool):both (decide p) k=k:=by simp [h,both_t]
theorem ble_dec (a b:Nat):Nat.ble a b=decide (a≤b):=by
 by_cases h:a≤b
 ·rw [Nat.ble_eq_true_of_le h];simp [h]
 ·cases hq:Nat.ble a b with
  | true=>exact absurd (Nat.le_of_ble_eq_true hq) h
  | false=>simp [h]
theorem beq_dec (a b:Nat):Nat.beq a b=decide (a=b):=by
 by_cases h:a=b
 ·subst h;simp
 ·cases hq:Nat.beq a b with
  | true=>exact absurd (Nat.eq_of_beq_eq_true hq) h
  | false=>simp [h]
section
variable {a b:Int} (k:V→Bool)
@[simp] theorem addW_z (ha:-9223372036854775808≤a∧a<9223372036854775808) (hb:-9223372036854775808≤b∧b<9223372036854775808) (h:-9223372036854775808≤a+b∧a+b<9223372036854775808):addW (wz a) (wz b) k=k (wz (a+b)):=by
 show k (.w (((a+9223372036854775808).toNat+(b+9223372036854775808).toNat+9223372036854775808) % 18446744073709551616))=_
 have e:((a+9223372036854775808).toNat+(b+9223372036854775808).toNat+9223372036854775808) % 18446744073709551616=(a+b+9223372036854775808).toNat:=by omega
 rw [e];rfl
@[simp] theorem subW_z (ha:-9223372036854775808≤a∧a<9223372036854775808) (hb:-9223372036854775808≤b∧b<9223372036854775808) (h:-9223372036854775808≤a-b∧a-b<9223372036854775808):subW (wz a) (wz b) k=k (wz (a-b)):=by
 show k (.w (((a+9223372036854775808).toNat+27670116110564327424-(b+9223372036854775808).toNat) % 18446744073709551616))=_
 have e:((a+9223372036854775808).toNat+27670116110564327424-(b+9223372036854775808).toNat) % 18446744073709551616=(a-b+9223372036854775808).toNat:=by omega
 rw [e];rfl
@[simp] theorem eqlW_z (ha:-9223372036854775808≤a) (hb:-9223372036854775808≤b):eqlW (wz a) (wz b) k=k (.t (decide (a=b))):=by
 show k (.t (Nat.beq _ _))=_
 rw [beq_dec]
 congr 2
 simp only [decide_eq_decide];omega
@[simp] theorem neqW_z (ha:-9223372036854775808≤a) (hb:-9223372036854775808≤b):neqW (wz a) (wz b) k=k (.t (decide (a≠b))):=by
 show k (.t (bs (Nat.beq _ _) false true))=_
 rw [beq_dec]
 congr 2
 by_cases h:a=b
 ·subst h;simp
 ·have:¬ (a+9223372036854775808).toNat=(b+9223372036854775808).toNat:=by omega
  simp [h,this]
@[simp] theorem lssW_z (ha:-9223372036854775808≤a) (hb:-9223372036854775808≤b):lssW (wz a) (wz b) k=k (.t (decide (a<b))):=by
 show k (.t (Nat.ble _ _))=_
 rw [ble_dec]
 congr 2
 simp only [decide_eq_decide,Nat.succ_eq_add_one];omega
@[simp] theorem leqW_z (ha:-9223372036854775808≤a) (hb:-9223372036854775808≤b):leqW (wz a) (wz b) k=k (.t (decide (a≤b))):=by
 show k (.t (Nat.ble _ _))=_
 rw [ble_dec]
 congr 2
 simp only [decide_eq_decide];omega
@[simp] theorem gtrW_z (ha:-9223372036854775808≤a) (hb:-9223372036854775808≤b):gtrW (wz a) (wz b) k=k (.t (decide (b<a))):=by
 show k (.t (Nat.ble _ _))=_
 rw [ble_dec]
 congr 2
 simp only [decide_eq_decide,Nat.succ_eq_add_one];omega
@[simp] theorem geqV_z (ha:-9223372036854775808≤a) (hb:-9223372036854775808≤b):geqV (wz a) (wz b) k=k (.t (decide (b≤a))):=by
 show k (.t (Nat.ble (b+9223372036854775808).toNat (a+9223372036854775808).toNat))=_
 rw [ble_dec]
 congr 2
 simp only [decide_eq_decide];omega
end
section
variable (a b:UInt8) (k:V→Bool)
@[simp] theorem eqlY_y:eqlY (vy a) (vy b) k=k (.t (decide (a=b))):=by
 show k (.t (Nat.beq _ _))=_
 rw [beq_dec]
 congr 2
 simp only [decide_eq_decide];exact UInt8.toNat_inj
@[simp] theorem neqY_y:neqY (vy a) (vy b) k=k (.t (decide (a≠b))):=by
 show k (.t (bs (Nat.beq _ _) false true))=_
 rw [beq_dec]
 congr 2
 by_cases h:a=b
 ·subst h;simp
 ·have:¬ a.toNat=b.toNat:=fun e=>h (UInt8.toNat_inj.1 e)
  simp [h,this]
theorem leqY_y:leqY (vy a) (vy b) k=k (.t (decide (a≤b))):=by
 show k (.t (Nat.ble _ _))=_
 rw [ble_dec];rfl
theorem geqY_y:geqY (vy a) (vy b) k=k (.t (decide (b≤a))):=by
 show k (.t (Nat.ble _ _))=_
 rw [ble_dec];rfl
theorem lssY_y:lssY (vy a) (vy b) k=k (.t (decide (a<b))):=by
 show k (.t (Nat.ble _ _))=_
 rw [ble_dec]
 congr 2
theorem gtrY_y:gtrY (vy a) (vy b) k=k (.t (decide (b<a))):=by
 show k (.t (Nat.ble _ _))=_
 rw [ble_dec]
 congr 2
end
@[simp] theorem lenS_vs (s:List UInt8) (k:V→Bool) (h:s.length≤4611686018427387904):lenS (vs s) k=k (wz s.length):=by
 show both (Nat.ble s.length 4611686018427387904) (k (.w (s.length+9223372036854775808)))=_
 rw [ble_dec,bothd h]
 have e:s.length+9223372036854775808=((s.length:Int)+9223372036854775808).toNat:=by omega
 rw [e];rfl
theorem sidxV_vs (s:List UInt8) (i:Nat) (h:i<s.length) (k:V→Bool):sidxV (vs s) (wz i) k=k (vy s[i]):=by
 obtain ⟨m,hm⟩ : ∃ m,m=((i:Int)+9223372036854775808).toNat:=⟨_,rfl⟩
 unfold wz
 rw [← hm]
 show both (Nat.ble bias m) (both (Nat.ble (Nat.succ (Nat.sub m bias)) s.length) (k (.y (sbyte (pack s) (Nat.sub m bias)))))=_
 have hb:bias=9223372036854775808:=rfl
 have e:Nat.sub m bias=i:=by show m-bias=i;omega
 have h1:bias≤m:=by omega
 rw [e,ble_dec,ble_dec,pack_byte s i s[i] (List.getElem?_eq_getElem h)]
 rw [bothd h1,bothd (Nat.succ_le_of_lt h)]
 rfl
theorem sub_toNat (a:Nat):Nat.sub ((a:Int)+9223372036854775808).toNat bias=a:=by
 obtain ⟨m,hm⟩ : ∃ m,m=((a:Int)+9223372036854775808).toNat:=⟨_,rfl⟩
 rw [← hm]
 have hb:bias=9223372036854775808:=rfl
 show m-bias=a
 omega
theorem ble_toNat (a:Nat):Nat.ble bias ((a:Int)+9223372036854775808).toNat=true:=by
 obtain ⟨m,hm⟩ : ∃ m,m=((a:Int)+9223372036854775808).toNat:=⟨_,rfl⟩
 rw [← hm]
 have hb:bias=9223372036854775808:=rfl
 exact Nat.ble_eq_true_of_le (by omega)
theorem bnd_w (m:Nat) (d:Nat) (k:Nat→Bool):bnd (some (.w m)) d k=both (Nat.ble bias m) (k (Nat.sub m bias)):=rfl
theorem bnd_z (a:Nat) (d:Nat) (k:Nat→Bool):bnd (some (wz a)) d k=k a:=by
 unfold wz
 rw [bnd_w,ble_toNat,sub_toNat,both_t]
theorem sstr_vs (lo hi:Option V) (s:List UInt8) (k:V→Bool):sstr lo hi (vs s) k=bnd hi s.length fun b=>both (Nat.ble b s.length) (bnd lo 0 fun a=>both (Nat.ble a b) (k (ssub s.length (pack s) a b))):=rfl
theorem bnd_none (d:Nat) (k:Nat→Bool):bnd none d k=k d:=rfl
theorem ssub_vs (s:List UInt8) (a b:Nat) (h1:a≤b) (h2:b≤s.length):ssub s.length (pack s) a b=vs ((s.drop a).take (b-a)):=by
 unfold ssub vs
 have hl:((s.drop a).take (b-a)).length=b-a:=by simp;omega
 rw [hl,pack_take,pack_drop]
 show V.s (b-a) (Nat.mod (Nat.shiftRight (pack s) (8*a)) (Nat.pow 256 (b-a)))=_
 have e:Nat.shiftRight (pack s) (8*a)=pack s / 256 ^ a:=by
  show pack s >>> (8*a)=_
  rw [Nat.shiftRight_eq_div_pow,Nat.pow_mul]
 rw [e];rfl
theorem sstr_from (s:List UInt8) (a:Nat) (h:a≤s.length) (k:V→Bool):sstr (some (wz a)) none (vs s) k=k (vs (s.drop a)):=by
 rw [sstr_vs,bnd_none]
 rw [bnd_z,ble_dec,ble_dec,bothd (Nat.le_refl _),bothd h,ssub_vs s a s.length h (Nat.le_refl _)]
 congr 2
 exact List.take_of_length_le (by simp)
theorem sstr_both (s:List UInt8) (a b:Nat) (h1:a≤b) (h2:b≤s.length) (k:V→Bool):sstr (some (wz a)) (some (wz b)) (vs s) k=k (vs ((s.drop a).take (b-a))):=by
 rw [sstr_vs,bnd_z,bnd_z,ble_dec,ble_dec,bothd h2,bothd h1,ssub_vs s a b h1 h2]
theorem sstr_to (s:List UInt8) (b:Nat) (h2:b≤s.length) (k:V→Bool):sstr none (some (wz b)) (vs s) k=k (vs (s.take b)):=by
 rw [sstr_vs,bnd_z,bnd_none,ble_dec,ble_dec,bothd h2,bothd (Nat.zero_le _),ssub_vs s 0 b (Nat.zero_le _) h2]
 simp
@[simp] theorem catV_vs (a b:List UInt8) (h:a.length+b.length≤1099511627776) (k:V→Bool):catV (vs a) (vs b) k=k (vs (a++b)):=by
 show both (Nat.ble (a.length+b.length) 1099511627776) (k (.s (a.length+b.length) (pack a+Nat.shiftLeft (pack b) (8*a.length))))=_
 rw [ble_dec,bothd h]
 have e:Nat.shiftLeft (pack b) (8*a.length)=256 ^ a.length*pack b:=by
  show pack b <<< (8*a.length)=_
  rw [Nat.shiftLeft_eq,Nat.pow_mul,Nat.mul_comm]
 rw [e,← pack_append,← List.length_append]
 rfl
theorem seqB_vs (a b:List UInt8):seqB a.length (pack a) b.length (pack b)=decide (a=b):=by
 unfold seqB
 rw [beq_dec,beq_dec]
 by_cases h:a=b
 ·subst h;simp [both]
 ·by_cases hl:a.length=b.length
  ·have hp:¬ pack a=pack b:=fun e=>h (pack_inj a b hl e)
   simp [h,hl,hp,both]
  ·simp [h,hl,both]
@[simp] theorem eqlS_vs (a b:List UInt8) (k:V→Bool):eqlS (vs a) (vs b) k=k (.t (decide (a=b))):=by
 show k (.t (seqB a.length (pack a) b.length (pack b)))=_
 rw [seqB_vs]
@[simp] theorem neqS_vs (a b:List UInt8) (k:V→Bool):neqS (vs a) (vs b) k=k (.t (decide (a≠b))):=by
 show k (.t (nots (seqB a.length (pack a) b.length (pack b))))=_
 rw [seqB_vs]
 by_cases h:a=b <;> simp [h,nots]
@[simp] theorem lenL_sl (id off len ver esz:Nat) (h:len≤4611686018427387904) (k:V→Bool):lenL (.sl id off len ver esz) k=k (wz len):=by
 show both (Nat.ble len 4611686018427387904) (k (.w (len+9223372036854775808)))=_
 rw [ble_dec,bothd h]
 have e:len+9223372036854775808=((len:Int)+9223372036854775808).toNat:=by omega
 rw [e];rfl
@[simp] theorem lenL_nil (k:V→Bool):lenL (.x .slnil V.nil V.nil) k=k (wz 0):=(Eq.refl _).trans rfl
theorem iadV_z (esz id off len ver i:Nat) (h:i<len) (k:V→Bool):iadV esz (.sl id off len ver esz) (wz i) k=k (.p id (off+i*esz) (off+len*esz) ver):=by
 obtain ⟨m,hm⟩ : ∃ m,m=((i:Int)+9223372036854775808).toNat:=⟨_,rfl⟩
 unfold wz
 rw [← hm]
 show both (Nat.beq esz esz) (both (Nat.ble bias m) (both (Nat.ble (m+1) (len+bias)) (k (.p id (off+(m-bias)*esz) (off+len*esz) ver))))=_
 have hb:bias=9223372036854775808:=rfl
 have e:m-bias=i:=by omega
 rw [e,beq_dec,ble_dec,ble_dec,bothd rfl,bothd (by omega),bothd (by omega)]
theorem run_succ (t:CallF→CallF) (n f:Nat) (l:V) (h:H) (k:KV):run t (n+1) f l h k=t (run t n) f l h k:=rfl
@[simp] theorem blockM_eq (i:Nat) (m:M) (e:L8) (h:H) (K:KX):blockM i m e h K=m e h fun x e' h'=>K (unX i x) e' h':=(Eq.refl _).trans rfl
theorem loopM_succ (n:Nat) (m:M) (e:L8) (h:H) (K:KX):loopM (n+1) m e h K=m e h fun x e' h'=>X.rec (motive:=fun _=>Bool) (loopM n m e' h' K) (fun i=>K (.x i) e' h') (K .r e' h') x:=rfl
@[simp] theorem finK_n (q:QF) (k:KV) (e:L8) (h:H):finK q k X.n e h=q e h fun v=>k v h:=(Eq.refl _).trans rfl
@[simp] theorem finK_r (q:QF) (k:KV) (e:L8) (h:H):finK q k X.r e h=q e h fun v=>k v h:=(Eq.refl _).trans rfl
@[simp] theorem sl0_mk (v:V) (y0 y1 y2 y3 y4 y5 y6 y7:V) (x1 x2 x3 x4 x5 x6 x7:N8 V) (k:L8→Bool):sl0 v ⟨⟨y0,y1,y2,y3,y4,y5,y6,y7⟩,x1,x2,x3,x4,x5,x6,x7⟩ k=k ⟨⟨v,y1,y2,y3,y4,y5,y6,y7⟩,x1,x2,x3,x4,x5,x6,x7⟩:=(Eq.refl _).trans rfl
@[simp] theorem sl1_mk (v:V) (y0 y1 y2 y3 y4 y5 y6 y7:V) (x1 x2 x3 x4 x5 x6 x7:N8 V) (k:L8→Bool):sl1 v ⟨⟨y0,y1,y2,y3,y4,y5,y6,y7⟩,x1,x2,x3,x4,x5,x6,x7⟩ k=k ⟨⟨y0,v,y2,y3,y4,y5,y6,y7⟩,x1,x2,x3,x4,x5,x6,x7⟩:=(Eq.refl _).trans rfl
@[simp] theorem sl2_mk (v:V) (y0 y1 y2 y3 y4 y5 y6 y7:V) (x1 x2 x3 x4 x5 x6 x7:N8 V) (k:L8→Bool):sl2 v ⟨⟨y0,y1,y2,y3,y4,y5,y6,y7⟩,x1,x2,x3,x4,x5,x6,x7⟩ k=k ⟨⟨y0,y1,v,y3,y4,y5,y6,y7⟩,x1,x2,x3,x4,x5,x6,x7⟩:=(Eq.refl _).trans rfl
@[simp] theorem sl3_mk (v:V) (y0 y1 y2 y3 y4 y5 y6 y7:V) (x1 x2 x3 x4 x5 x6 x7:N8 V) (k:L8→Bool):sl3 v ⟨⟨y0,y1,y2,y3,y4,y5,y6,y7⟩,x1,x2,x3,x4,x5,x6,x7⟩ k=k ⟨⟨y0,y1,y2,v,y4,y5,y6,y7⟩,x1,x2,x3,x4,x5,x6,x7⟩:=(Eq.refl _).trans rfl
@[simp] theorem sl4_mk (v:V) (y0 y1 y2 y3 y4 y5 y6 y7:V) (x1 x2 x3 x4 x5 x6 x7:N8 V) (k:L8→Bool):sl4 v ⟨⟨y0,y1,y2,y3,y4,y5,y6,y7⟩,x1,x2,x3,x4,x5,x6,x7⟩ k=k ⟨⟨y0,y1,y2,y3,v,y5,y6,y7⟩,x1,x2,x3,x4,x5,x6,x7⟩:=(Eq.refl _).trans rfl
@[simp] theorem sl5_mk (v:V) (y0 y1 y2 y3 y4 y5 y6 y7:V) (x1 x2 x3 x4 x5 x6 x7:N8 V) (k:L8→Bool):sl5 v ⟨⟨y0,y1,y2,y3,y4,y5,y6,y7⟩,x1,x2,x3,x4,x5,x6,x7⟩ k=k ⟨⟨y0,y1,y2,y3,y4,v,y6,y7⟩,x1,x2,x3,x4,x5,x6,x7⟩:=(Eq.refl _).trans rfl
@[simp] theorem sl6_mk (v:V) (y0 y1 y2 y3 y4 y5 y6 y7:V) (x1 x2 x3 x4 x5 x6 x7:N8 V) (k:L8→Bool):sl6 v ⟨⟨y0,y1,y2,y3,y4,y5,y6,y7⟩,x1,x2,x3,x4,x5,x6,x7⟩ k=k ⟨⟨y0,y1,y2,y3,y4,y5,v,y7⟩,x1,x2,x3,x4,x5,x6,x7⟩:=(Eq.refl _).trans rfl
@[simp] theorem sl7_mk (v:V) (y0 y1 y2 y3 y4 y5 y6 y7:V) (x1 x2 x3 x4 x5 x6 x7:N8 V) (k:L8→Bool):sl7 v ⟨⟨y0,y1,y2,y3,y4,y5,y6,y7⟩,x1,x2,x3,x4,x5,x6,x7⟩ k=k ⟨⟨y0,y1,y2,y3,y4,y5,y6,v⟩,x1,x2,x3,x4,x5,x6,x7⟩:=(Eq.refl _).trans rfl
@[simp] theorem onCons_vl (a:V) (l:List V) (k:V→V→Bool):onCons (vl (a::l)) k=k a (vl l):=(Eq.refl _).trans rfl
@[simp] theorem onNil_vl (k:Bool):onNil (vl []) k=k:=(Eq.refl _).trans rfl
@[simp] theorem unX_n (i:Nat):unX i X.n=X.n:=(Eq.refl _).trans rfl
@[simp] theorem unX_r (i:Nat):unX i X.r=X.r:=(Eq.refl _).trans rfl
@[simp] theorem unX_s (i:Nat):unX i (X.x i)=X.n:=by
 show bs (Nat.beq i i) X.n (X.x i)=X.n
 rw [beq_dec];simp
@[simp] theorem unX_ne {i j:Nat} (h:j≠i):unX i (X.x j)=X.x j:=by
 show bs (Nat.beq j i) X.n (X.x j)=X.x j
 rw [beq_dec];simp [h]
@[simp] theorem mulV_z {a b:Int} (k:V→Bool) (ha:-9223372036854775808≤a∧a<9223372036854775808) (hb:-9223372036854775808≤b∧b<9223372036854775808) (h:-9223372036854775808≤a*b∧a*b<9223372036854775808):mulV (wz a) (wz b) k=k (wz (a*b)):=by
 obtain ⟨x,hx⟩ : ∃ x,x=(a+9223372036854775808).toNat:=⟨_,rfl⟩
 obtain ⟨y,hy⟩ : ∃ y,y=(b+9223372036854775808).toNat:=⟨_,rfl⟩
 unfold wz
 rw [← hx,← hy]
 show k (.w (((x+9223372036854775808)*(y+9223372036854775808)+9223372036854775808) % 18446744073709551616))=_
 have e1:((x+9223372036854775808:Nat):Int)=a+18446744073709551616:=by omega
 have e2:((y+9223372036854775808:Nat):Int)=b+18446744073709551616:=by omega
 have e:((((x+9223372036854775808)*(y+9223372036854775808)+9223372036854775808) % 18446744073709551616:Nat):Int)=a*b+9223372036854775808:=by
  rw [Int.natCast_emod,Int.natCast_add,Int.natCast_mul,e1,e2]
  have:(a+18446744073709551616)*(b+18446744073709551616)+((9223372036854775808:Nat):Int)=(a*b+9223372036854775808)+18446744073709551616*(a+b+18446744073709551616):=by
   rw [Int.add_mul,Int.mul_add,Int.mul_add];omega
  rw [this]
  have e3:((18446744073709551616:Nat):Int)=18446744073709551616:=rfl
  rw [e3,Int.add_mul_emod_self_left]
  exact Int.emod_eq_of_lt (by omega) (by omega)
 rw [show (((x+9223372036854775808)*(y+9223372036854775808)+9223372036854775808) % 18446744073709551616)=(a*b+9223372036854775808).toNat from by omega]
@[simp] theorem subY_y (a b:UInt8) (h:b≤a) (k:V→Bool):subY (vy a) (vy b) k=k (vy (a-b)):=by
 show k (.y ((a.toNat+256-b.toNat) % 256))=k (.y (a-b).toNat)
 rw [UInt8.toNat_sub_of_le _ _ h]
 have h1:=UInt8.le_iff_toNat_le.1 h
 have h2:=a.toNat_lt
 congr 2
 omega
@[simp] theorem toW_y (a:UInt8) (k:V→Bool):toW (vy a) k=k (wz a.toNat):=by
 show k (.w (a.toNat+bias))=_
 have e:a.toNat+bias=((a.toNat:Int)+9223372036854775808).toNat:=by show a.toNat+9223372036854775808=_;omega
 rw [e];rfl
@[simp] theorem gT_u (h:H) (f:KV→Bool) (k:KV):guardT V.u h f k=k V.u h:=(Eq.refl _).trans rfl
@[simp] theorem gF_u (h:H) (f:KV→Bool) (k:KV):guardF V.u h f k=k V.u h:=(Eq.refl _).trans rfl
@[simp] theorem sidxV_d (s:List UInt8) (i:Int) (h0:0≤i) (h:i<s.length) (k:V→Bool):sidxV (vs s) (wz i) k=k (vy (s.getD i.toNat 0)):=by
 obtain ⟨j,rfl⟩:=Int.eq_ofNat_of_zero_le h0
 have hj:j<s.length:=by omega
 rw [sidxV_vs s j hj,List.getD_eq_getElem?_getD]
 rw [show ((j:Int)).toNat=j from rfl,List.getElem?_eq_getElem hj];rfl
@[simp] theorem sstr_fromI (s:List UInt8) (a:Int) (h0:0≤a) (h:a≤s.length) (k:V→Bool):sstr (some (wz a)) none (vs s) k=k (vs (s.drop a.toNat)):=by
 obtain ⟨j,rfl⟩:=Int.eq_ofNat_of_zero_le h0
 exact sstr_from s j (by omega) k
@[simp] theorem sstr_bothI (s:List UInt8) (a b:Int) (h0:0≤a) (h1:a≤b) (h2:b≤s.length) (k:V→Bool):sstr (some (wz a)) (some (wz b)) (vs s) k=k (vs ((s.drop a.toNat).take (b.toNat-a.toNat))):=by
 obtain ⟨j,rfl⟩:=Int.eq_ofNat_of_zero_le h0
 obtain ⟨j',rfl⟩:=Int.eq_ofNat_of_zero_le (Int.le_trans h0 h1)
 exact sstr_both s j j' (by omega) (by omega) k
@[simp] theorem sstr_toI (s:List UInt8) (b:Int) (h0:0≤b) (h2:b≤s.length) (k:V→Bool):sstr none (some (wz b)) (vs s) k=k (vs (s.take b.toNat)):=by
 obtain ⟨j,rfl⟩:=Int.eq_ofNat_of_zero_le h0
 exact sstr_to s j (by omega) k
@[simp] theorem iadV_I (esz id off len ver:Nat) (i:Int) (h0:0≤i) (h:i<len) (k:V→Bool):iadV esz (.sl id off len ver esz) (wz i) k=k (.p id (off+i.toNat*esz) (off+len*esz) ver):=by
 obtain ⟨j,rfl⟩:=Int.eq_ofNat_of_zero_le h0
 exact iadV_z esz id off len ver j (by omega) k
@[simp] theorem sl0_n8 (v y:V) (x1 x2 x3 x4 x5 x6 x7:N8 V) (k:L8→Bool):sl0 v ⟨n8 y,x1,x2,x3,x4,x5,x6,x7⟩ k=k ⟨⟨v,y,y,y,y,y,y,y⟩,x1,x2,x3,x4,x5,x6,x7⟩:=(Eq.refl _).trans rfl
@[simp] theorem sl1_n8 (v y:V) (x1 x2 x3 x4 x5 x6 x7:N8 V) (k:L8→Bool):sl1 v ⟨n8 y,x1,x2,x3,x4,x5,x6,x7⟩ k=k ⟨⟨y,v,y,y,y,y,y,y⟩,x1,x2,x3,x4,x5,x6,x7⟩:=(Eq.refl _).trans rfl
@[simp] theorem sl2_n8 (v y:V) (x1 x2 x3 x4 x5 x6 x7:N8 V) (k:L8→Bool):sl2 v ⟨n8 y,x1,x2,x3,x4,x5,x6,x7⟩ k=k ⟨⟨y,y,v,y,y,y,y,y⟩,x1,x2,x3,x4,x5,x6,x7⟩:=(Eq.refl _).trans rfl
@[simp] theorem sl3_n8 (v y:V) (x1 x2 x3 x4 x5 x6 x7:N8 V) (k:L8→Bool):sl3 v ⟨n8 y,x1,x2,x3,x4,x5,x6,x7⟩ k=k ⟨⟨y,y,y,v,y,y,y,y⟩,x1,x2,x3,x4,x5,x6,x7⟩:=(Eq.refl _).trans rfl
@[simp] theorem sl4_n8 (v y:V) (x1 x2 x3 x4 x5 x6 x7:N8 V) (k:L8→Bool):sl4 v ⟨n8 y,x1,x2,x3,x4,x5,x6,x7⟩ k=k ⟨⟨y,y,y,y,v,y,y,y⟩,x1,x2,x3,x4,x5,x6,x7⟩:=(Eq.refl _).trans rfl
@[simp] theorem sl5_n8 (v y:V) (x1 x2 x3 x4 x5 x6 x7:N8 V) (k:L8→Bool):sl5 v ⟨n8 y,x1,x2,x3,x4,x5,x6,x7⟩ k=k ⟨⟨y,y,y,y,y,v,y,y⟩,x1,x2,x3,x4,x5,x6,x7⟩:=(Eq.refl _).trans rfl
@[simp] theorem sl6_n8 (v y:V) (x1 x2 x3 x4 x5 x6 x7:N8 V) (k:L8→Bool):sl6 v ⟨n8 y,x1,x2,x3,x4,x5,x6,x7⟩ k=k ⟨⟨y,y,y,y,y,y,v,y⟩,x1,x2,x3,x4,x5,x6,x7⟩:=(Eq.refl _).trans rfl
@[simp] theorem sl7_n8 (v y:V) (x1 x2 x3 x4 x5 x6 x7:N8 V) (k:L8→Bool):sl7 v ⟨n8 y,x1,x2,x3,x4,x5,x6,x7⟩ k=k ⟨⟨y,y,y,y,y,y,y,v⟩,x1,x2,x3,x4,x5,x6,x7⟩:=(Eq.refl _).trans rfl
end Go.Bvm
set_option linter.unusedVariables false
namespace Go.Bvm
abbrev slnil:V:=.x .slnil V.nil V.nil
def kd (b:Blk):Nat:=match b with | .bk _ _ _ _ elem ex own=>(match own with | true=>2*elem+2+ex.toNat | false=>0) | .nb=>0 | _=>1
abbrev kO (t:Nat):Nat:=2*t+2+1
abbrev kR (t:Nat):Nat:=2*t+2+0
def Bk (h:H) (id ver frz elem:Nat) (ex own:Bool) (l:List V):Prop:=
 ∃ c,hget id h.tr=.bk c l.length ver frz elem ex own∧l.length≤acap c∧∀ j (hj:j<l.length),aget j c=l[j]
theorem Bk.kdF {h:H} {id ver frz elem:Nat} {ex:Bool} {l:List V} (b:Bk h id ver frz elem ex false l):kd (hget id h.tr)=0:=by
 obtain ⟨c,e,_⟩:=b;rw [e];rfl
theorem Bk.kd {h:H} {id ver frz elem:Nat} {ex:Bool} {l:List V} (b:Bk h id ver frz elem ex true l):kd (hget id h.tr)=2*elem+2+ex.toNat:=by
 obtain ⟨c,e,_⟩:=b;rw [e];rfl
theorem Bk.eq {h h':H} {id ver frz elem:Nat} {ex own:Bool} {l:List V} (b:Bk h id ver frz elem ex own l) (e:hget id h'.tr=hget id h.tr):Bk h' id ver frz elem ex own l:=by
 obtain ⟨c,e1,e2⟩:=b;exact ⟨c,e.trans e1,e2⟩
def Only (h h':H) (id:Nat):Prop:=h.next≤h'.next∧∀ i,i≠id→hget i h'.tr=hget i h.tr
theorem Bk.only {h h':H} {j id ver frz elem:Nat} {ex own:Bool} {l:List V} (b:Bk h j ver frz elem ex own l) (o:Only h h' id) (n:j≠id):Bk h' j ver frz elem ex own l:=b.eq (o.2 j n)
structure Fz (c b:Nat) (M:List Nat) (h h':H):Prop where
 nx:h.next≤h'.next
 lo:∀ id,id<c→hget id h'.tr=hget id h.tr
 hi:∀ id,id<b→Go.Bvm.kd (hget id h.tr)∉M→hget id h'.tr=hget id h.tr
theorem Fz.refl (c b:Nat) (M:List Nat) (h:H):Fz c b M h h:=⟨Nat.le_refl _,fun _ _=>rfl,fun _ _ _=>rfl⟩
theorem Fz.trans {c c' b b':Nat} {M M':List Nat} {h h1 h2:H} (x:Fz c b M h h1) (y:Fz c' b' M' h1 h2) (hc:c≤c') (hb:b≤b') (hM:∀ k,k∈M'→k∈M):Fz c b M h h2:=
 ⟨Nat.le_trans x.nx y.nx,fun id i=>(y.lo id (by omega)).trans (x.lo id i),fun id i n=>(y.hi id (by omega) (by rw [x.hi id i n];exact fun k=>n (hM _ k))).trans (x.hi id i n)⟩
theorem Fz.mono {c c' b b':Nat} {M M':List Nat} {h h1:H} (y:Fz c' b' M' h h1) (hc:c≤c') (hb:b≤b') (hM:∀ k,k∈M'→k∈M):Fz c b M h h1:=(Fz.refl c b M h).trans y hc hb hM
abbrev Ex (h h':H):Prop:=Fz h.next h.next [] h h'
theorem Fz.ex {c b:Nat} {M:List Nat} {h h1 h2:H} (x:Fz c b M h h1) (y:Ex h1 h2) (hc:c≤h1.next) (hb:b≤h1.next):Fz c b M h h2:=x.trans y hc hb (fun _ k=>by simp at k)
theorem Fz.put {c b id:Nat} {M:List Nat} {h h1 h2:H} (x:Fz c b M h h1) (o:Only h1 h2 id) (hc:c≤id) (hk:b≤id∨Go.Bvm.kd (hget id h1.tr)∈M):Fz c b M h h2:=
 ⟨Nat.le_trans x.nx o.1,fun i l=>(o.2 i (by omega)).trans (x.lo i l),fun i l n=>(o.2 i (fun e=>by
  subst e
  rcases hk with k | k
  ·omega
  ·rw [x.hi i l n] at k;exact n k)).trans (x.hi i l n)⟩
theorem Fz.up {c b:Nat} {M:List Nat} {h h1:H} (x:Fz c b M h h1) (n:Nat):Fz c b M h ⟨h1.next+n,h1.tr⟩:=⟨Nat.le_trans x.nx (Nat.le_add_right _ _),x.lo,x.hi⟩
theorem Bk.fz {c b:Nat} {M:List Nat} {h h':H} {j ver frz elem:Nat} {ex:Bool} {l:List V} (B:Bk h j ver frz elem ex true l) (F:Fz c b M h h') (hb:j<b) (n:2*elem+2+ex.toNat∉M):Bk h' j ver frz elem ex true l:=B.eq (F.hi j hb (by rw [B.kd];exact n))
def nth:List V→Nat→V
 | [],_=>V.u
 | a::_,0=>a
 | _::l,n+1=>nth l n
@[simp] theorem nth_0 (a:V) (l:List V):nth (a::l) 0=a:=(Eq.refl _).trans rfl
@[simp] theorem nth_s (a:V) (l:List V) (n:Nat):nth (a::l) (n+1)=nth l n:=(Eq.refl _).trans rfl
theorem nth_get:∀ {l:List V} {n:Nat} (h:n<l.length),nth l n=l[n]
 | [],n,h=>by simp at h
 | a::l,0,h=>rfl
 | a::l,n+1,h=>nth_get (l:=l) (n:=n) (by simpa using h)
theorem Bk.ld {h:H} {id ver frz elem:Nat} {ex own:Bool} {l:List V} (b:Bk h id ver frz elem ex own l) {n:Nat} (e:l.length=n) {off lim:Nat} (ho:off<n) (hl:off<lim) (k:V→Bool):ld1 (.p id off lim ver) h k=k (nth l off):=by
 subst e
 obtain ⟨c,h2,_,h3⟩:=b
 show onBk (hget id h.tr) _=_
 rw [h2]
 show both (Nat.beq ver ver) (both (Nat.ble (Nat.succ off) lim) (k (aget off c)))=_
 rw [beq_dec,ble_dec,h3 off ho,bothd rfl,bothd (Nat.succ_le_of_lt hl),nth_get ho]
theorem cells_vl {c:Arr} {l:List V} (h:∀ j (hj:j<l.length),aget j c=l[j]):∀ (n off:Nat),off+n≤l.length→cells c n off=vl ((l.drop off).take n)
 | 0,off,_=>by rw [List.take_zero];rfl
 | n+1,off,hn=>by
  have ho:off<l.length:=by omega
  rw [List.drop_eq_getElem_cons ho,List.take_succ_cons,vl_cons]
  show V.x .cons (aget off c) (cells c n (off+1))=_
  rw [h off ho,cells_vl h n (off+1) (by omega)]
theorem Bk.lda {h:H} {id ver frz elem:Nat} {ex own:Bool} {l:List V} (b:Bk h id ver frz elem ex own l) {m:Nat} (e:l.length=m) {n off lim:Nat} (ho:off+n≤m) (hl:off+n≤lim) (k:V→Bool):Go.Bvm.lda n (.p id off lim ver) h k=k (.x .agg (vl ((l.drop off).take n)) V.nil):=by
 subst e
 obtain ⟨c,h2,_,h3⟩:=b
 show onBk (hget id h.tr) _=_
 rw [h2]
 show both (Nat.beq ver ver) (both (Nat.ble (Nat.add off n) lim) (k (.x .agg (cells c n off) V.nil)))=_
 rw [beq_dec,ble_dec,bothd rfl,bothd (show off.add n≤lim from hl),cells_vl h3 n off ho]
noncomputable def aLy:List V→Nat→Arr→Arr
 | [],_,c=>c
 | v::r,i,c=>aLy r (i+1) (aset i v c)
theorem lay_vl (k:Arr→Bool):∀ (l:List V) (i:Nat) (c:Arr),lay (vl l) l.length i c k=k (aLy l i c)
 | [],_,_=>rfl
 | v::r,i,c=>lay_vl k r (i+1) (aset i v c)
theorem acap_aL:∀ (l:List V) (i:Nat) (c:Arr),acap (aLy l i c)=acap c
 | [],_,_=>rfl
 | v::r,i,c=>(acap_aL r (i+1) (aset i v c)).trans (acap_aset _ _ _)
theorem aget_aL:∀ (l:List V) (i:Nat) (c:Arr) (j:Nat),j<acap c→i+l.length≤acap c→aget j (aLy l i c)=if h:i≤j∧j<i+l.length then l[j-i]'(by omega) else aget j c
 | [],i,c,j,_,_=>by rw [dif_neg (by simp)];rfl
 | v::r,i,c,j,hj,hl=>by
  have hl':i+1+r.length≤acap c:=by simp only [List.length_cons] at hl;omega
  show aget j (aLy r (i+1) (aset i v c))=_
  rw [aget_aL r (i+1) (aset i v c) j (by simpa using hj) (by simpa using hl')]
  by_cases h1:i+1≤j∧j<i+1+r.length
  ·rw [dif_pos h1,dif_pos (by simp only [List.length_cons];omega)]
   have:j-i=(j-(i+1))+1:=by omega
   simp [this]
  ·rw [dif_neg h1,aget_aset _ _ _ _ hj (by omega)]
   by_cases h2:j=i
   ·subst h2
    rw [if_pos rfl,dif_pos ⟨Nat.le_refl _,by simp⟩]
    simp
   ·rw [if_neg h2,dif_neg (by simp only [List.length_cons];omega)]
abbrev lput (l:List V) (off:Nat) (m:List V):List V:=l.take off++(m++l.drop (off+m.length))
theorem lput_len {l m:List V} {off:Nat} (h:off+m.length≤l.length):(lput l off m).length=l.length:=by simp [lput];omega
theorem hset_bk {h:H} {id ver frz elem:Nat} {ex own:Bool} {l:List V} {c:Arr} {n:Nat} (e:n=l.length) (hc:l.length≤acap c) (hg:∀ j (hj:j<l.length),aget j c=l[j]) (nx:Nat) (hn:h.next≤nx) :
  Bk ⟨nx,hset id (.bk c n ver frz elem ex own) h.tr⟩ id ver frz elem ex own l∧Only h ⟨nx,hset id (.bk c n ver frz elem ex own) h.tr⟩ id:=by
 subst e
 refine ⟨⟨c,?_,hc,hg⟩,hn,fun i q=>?_⟩
 ·show hget id (hset id _ h.tr)=_
  rw [hget_hset _ _ _ _ (Nat.zero_le _) (Nat.zero_le _),if_pos rfl]
 ·show hget i (hset id _ h.tr)=_
  rw [hget_hset _ _ _ _ (Nat.zero_le _) (Nat.zero_le _),if_neg q]
theorem st_w {h:H} {id ver elem off lim:Nat} {ex:Bool} {l:List V} {v:V} {k:KV} (b:Bk h id ver 0 elem ex true l) (ho:off<l.length) (hl:off<lim) (hv:oneV v=true)
  (K:∀ h',h'.next=h.next→Bk h' id ver 0 elem ex true (l.set off v)→Only h h' id→k V.u h'=true):st true 1 (.p id off lim ver) v h k=true:=by
 obtain ⟨c,h2,h4,h3⟩:=b
 obtain ⟨q1,q2⟩:=hset_bk (h:=h) (id:=id) (ver:=ver) (frz:=0) (elem:=elem) (ex:=ex) (own:=true) (l:=l.set off v) (c:=aset off v c) (n:=l.length) (by simp) (by simpa using h4) (fun j hj=>by
  rw [List.length_set] at hj
  rw [aget_aset _ _ _ _ (by omega) (by omega),List.getElem_set]
  by_cases e:j=off
  ·subst e;rw [if_pos rfl,if_pos rfl]
  ·rw [if_neg e,if_neg (Ne.symm e)];exact h3 j hj) h.next (Nat.le_refl _)
 show onBk (hget id h.tr) _=_
 rw [h2]
 show both true (both (Nat.beq ver ver) (both (Nat.ble (Nat.add off 1) lim) (both (Nat.ble 0 off) (bs true (both (Nat.beq 1 1) (both (oneV v) (k V.u _))) _))))=_
 rw [beq_dec,ble_dec,ble_dec,hv,both_t,bothd rfl,bothd (Nat.succ_le_of_lt hl),bothd (Nat.zero_le _)]
 exact K _ rfl q1 q2
theorem sta_w {h:H} {id ver elem off lim n:Nat} {ex:Bool} {l m:List V} {t:V} {k:KV} (b:Bk h id ver 0 elem ex true l) (hn:m.length=n) (ho:off+n≤l.length) (hl:off+n≤lim)
  (K:∀ h',h'.next=h.next→Bk h' id ver 0 elem ex true (lput l off m)→Only h h' id→k V.u h'=true):st false n (.p id off lim ver) (.x .agg (vl m) t) h k=true:=by
 subst hn
 obtain ⟨c,h2,h4,h3⟩:=b
 obtain ⟨q1,q2⟩:=hset_bk (h:=h) (id:=id) (ver:=ver) (frz:=0) (elem:=elem) (ex:=ex) (own:=true) (l:=lput l off m) (c:=aLy m off c) (n:=l.length) (lput_len ho).symm (by rw [lput_len ho,acap_aL];exact h4) (fun j hj=>by
  rw [lput_len ho] at hj
  rw [aget_aL _ _ _ _ (by omega) (by omega)]
  by_cases e:off≤j∧j<off+m.length
  ·rw [dif_pos e,List.getElem_append_right (by simp;omega),List.getElem_append_left (by simp;omega)]
   congr 1;simp;omega
  ·rw [dif_neg e,h3 j hj]
   by_cases e2:j<off
   ·rw [List.getElem_append_left (by simp;omega)];simp
   ·rw [List.getElem_append_right (by simp;omega),List.getElem_append_right (by simp;omega),List.getElem_drop]
    congr 1;simp;omega) h.next (Nat.le_refl _)
 show onBk (hget id h.tr) _=_
 rw [h2]
 show both true (both (Nat.beq ver ver) (both (Nat.ble (Nat.add off m.length) lim) (both (Nat.ble 0 off) (lay (vl m) m.length off c _))))=_
 rw [beq_dec,ble_dec,ble_dec,lay_vl,both_t,bothd rfl,bothd (show Nat.add off m.length≤lim from hl),bothd (Nat.zero_le _)]
 exact K _ rfl q1 q2
theorem fresh_bk {h:H} {id elem:Nat} {ex:Bool} {l:List V} {n:Nat} (e:n=l.length) (hl:l.length≤17179869184) (nx:Nat) (hn:h.next≤nx) :
  Bk ⟨nx,hset id (.bk (aLy l 0 (fresh n)) n 0 0 elem ex true) h.tr⟩ id 0 0 elem ex true l∧Only h ⟨nx,hset id (.bk (aLy l 0 (fresh n)) n 0 0 elem ex true) h.tr⟩ id:=by
 subst e
 have hf:=acap_fresh l.length hl
 exact hset_bk rfl (by rw [acap_aL];exact hf) (fun j hj=>by
  rw [aget_aL _ _ _ _ (by omega) (by omega),dif_pos ⟨Nat.zero_le _,by omega⟩];simp) nx hn
theorem Only.ex {h h':H} {n id:Nat} (o:Only ⟨h.next+n,h.tr⟩ h' id) (hi:h.next≤id):Ex h h':=
 ⟨Nat.le_trans (Nat.le_add_right _ _) o.1,fun i l=>o.2 i (by omega),fun i l _=>o.2 i (by omega)⟩
theorem newA_w {h:H} {id elem n:Nat} {l:List V} {b:V} {k:KV} (hn:l.length=n) (h1:1≤n) (hl:n≤4096)
  (K:∀ h',h'.next=h.next→Bk h' id 0 0 elem true true l→Only h h' id→k (.p id 0 n 0) h'=true):newA id false n elem (.x .agg (vl l) b) h k=true:=by
 subst hn
 obtain ⟨b1,b2⟩:=fresh_bk (h:=h) (id:=id) (elem:=elem) (ex:=true) (l:=l) rfl (by omega) h.next (Nat.le_refl _)
 show both (Nat.ble 1 l.length) (both (Nat.ble l.length 17179869184) (bs false _ (lay (vl l) l.length 0 (fresh l.length) _)))=_
 rw [ble_dec,ble_dec,bs_false,lay_vl,bothd h1,bothd (by omega)]
 exact K _ rfl b1 b2
theorem bslA_w {h:H} {id elem len esz:Nat} {l:List V} {k:KV} (hle:l.length=len*esz) (hl:l.length≤4096)
  (K:∀ h',h'.next=h.next→Bk h' id 0 0 elem true true l→Only h h' id→k (.sl id 0 len 0 esz) h'=true):bslA id len esz elem (vl l) h k=true:=by
 obtain ⟨b1,b2⟩:=fresh_bk (h:=h) (id:=id) (elem:=elem) (ex:=true) (l:=l) (n:=len*esz) hle.symm (by omega) h.next (Nat.le_refl _)
 show both (Nat.ble (len*esz) 4096) (lay (vl l) (len*esz) 0 (fresh (len*esz)) _)=_
 rw [ble_dec,bothd (by omega)]
 rw [← hle] at b1 b2 ⊢
 rw [lay_vl]
 exact K _ rfl b1 b2
theorem acap_acopy (c:Arr):∀ (n i j:Nat) (c':Arr),acap (acopy c n i j c')=acap c'
 | 0,_,_,_=>rfl
 | n+1,i,j,c'=>(acap_acopy c n (i+1) (j+1) _).trans (acap_aset _ _ _)
theorem aget_acopy (c:Arr):∀ (n i j:Nat) (c':Arr) (t:Nat),j+n≤acap c'→t<acap c'→aget t (acopy c n i j c')=if j≤t∧t<j+n then aget (i+(t-j)) c else aget t c'
 | 0,i,j,c',t,_,_=>by rw [if_neg (by omega)];rfl
 | n+1,i,j,c',t,h1,h2=>by
  show aget t (acopy c n (i+1) (j+1) (aset j (aget i c) c'))=_
  rw [aget_acopy c n (i+1) (j+1) _ t (by rw [acap_aset];omega) (by rw [acap_aset];exact h2)]
  by_cases h:j+1≤t∧t<j+1+n
  ·rw [if_pos h,if_pos (by omega),show i+1+(t-(j+1))=i+(t-j) from by omega]
  ·rw [if_neg h,aget_aset _ _ _ _ h2 (by omega)]
   by_cases e:t=j
   ·subst e;rw [if_pos rfl,if_pos (by omega),Nat.sub_self,Nat.add_zero]
   ·rw [if_neg e,if_neg (by omega)]
theorem app_nil_w {h:H} {esz elem sid soff n sver sfrz sel:Nat} {sex sown:Bool} {l:List V} {k:KV} (b:Bk h sid sver sfrz sel sex sown l) (he:1≤esz) (hn:1≤n) (hl:soff+n*esz≤l.length) (hm:n*esz≤17179869184)
  (K:∀ h',h'.next=h.next+1→Bk h' h.next 0 0 elem false true ((l.drop soff).take (n*esz))→Only h h' h.next→k (.sl h.next 0 n 0 esz) h'=true):app esz elem slnil (.sl sid soff n sver esz) h k=true:=by
 obtain ⟨c,s2,s3,s4⟩:=b
 have hf:=acap_fresh (n*esz) hm
 have hlen:((l.drop soff).take (n*esz)).length=n*esz:=by simp;omega
 obtain ⟨q1,q2⟩:=hset_bk (h:=h) (id:=h.next) (ver:=0) (frz:=0) (elem:=elem) (ex:=false) (own:=true) (l:=(l.drop soff).take (n*esz)) (c:=acopy c (n*esz) soff 0 (fresh (n*esz))) (n:=n*esz) hlen.symm (by rw [acap_acopy,hlen];exact hf) (fun j hj=>by
  rw [hlen] at hj
  rw [aget_acopy c _ _ _ _ _ (by omega) (by omega),if_pos (by omega),Nat.sub_zero,s4 _ (by omega)]
  simp) (h.next+1) (Nat.le_succ _)
 have hb0:Nat.beq n 0=false:=by rw [beq_dec];simp;omega
 show both (Nat.ble 1 esz) (both (Nat.beq esz esz) (onBk (hget sid h.tr) _))=_
 rw [s2]
 show both (Nat.ble 1 esz) (both (Nat.beq esz esz) (both (Nat.beq sver sver) (bs (Nat.beq n 0) _ (both (Nat.ble (n*esz) 17179869184) (both (Nat.ble 0 (h.next+1)) (k _ _))))))=_
 rw [hb0,bs_false,ble_dec,ble_dec,ble_dec,beq_dec,beq_dec,bothd he,bothd rfl,bothd rfl,bothd hm,bothd (Nat.zero_le _)]
 exact K _ rfl q1 q2
theorem app_row_w {h:H} {esz elem sid soff n sver sfrz sel id len ver:Nat} {ex sex sown:Bool} {l m:List V} {k:KV} (bs':Bk h sid sver sfrz sel sex sown l) (b:Bk h id ver 0 elem ex true m) (he:1≤esz) (hn:1≤n) (hl:soff+n*esz≤l.length) (hm:m.length=len*esz) (hle:m.length+n*esz≤17179869184)
  (K:∀ h',h'.next=h.next→Bk h' id (ver+1) 0 elem false true (m++(l.drop soff).take (n*esz))→Only h h' id→k (.sl id 0 (len+n) (ver+1) esz) h'=true):app esz elem (.sl id 0 len ver esz) (.sl sid soff n sver esz) h k=true:=by
 obtain ⟨c,s2,s3,s4⟩:=bs'
 obtain ⟨d,m2,m3,m4⟩:=b
 have hr:=acap_room (m.length+n*esz) d hle
 have hlen:(m++(l.drop soff).take (n*esz)).length=m.length+n*esz:=by simp;omega
 obtain ⟨q1,q2⟩:=hset_bk (h:=h) (id:=id) (ver:=ver+1) (frz:=0) (elem:=elem) (ex:=false) (own:=true) (l:=m++(l.drop soff).take (n*esz)) (c:=acopy c (n*esz) soff m.length (room (m.length+n*esz) d)) (n:=m.length+n*esz) hlen.symm (by rw [acap_acopy,hlen];exact hr) (fun j hj=>by
  rw [hlen] at hj
  rw [aget_acopy c _ _ _ _ _ (by omega) (by omega)]
  by_cases hjm:j<m.length
  ·rw [if_neg (by omega),aget_room _ _ _ (by omega),m4 j hjm,List.getElem_append_left hjm]
  ·rw [if_pos (by omega),s4 _ (by omega),List.getElem_append_right (by omega)]
   simp) h.next (Nat.le_refl _)
 have hb0:Nat.beq n 0=false:=by rw [beq_dec];simp;omega
 show both (Nat.ble 1 esz) (both (Nat.beq esz esz) (onBk (hget sid h.tr) _))=_
 rw [s2]
 show both (Nat.ble 1 esz) (both (Nat.beq esz esz) (both (Nat.beq sver sver) (bs (Nat.beq n 0) _ (both (Nat.beq esz esz) (onBk (hget id h.tr) _)))))=_
 rw [hb0,bs_false,m2]
 show both (Nat.ble 1 esz) (both (Nat.beq esz esz) (both (Nat.beq sver sver) (both (Nat.beq esz esz) (both true (both (Nat.beq ver ver) (both (both (Nat.beq elem elem) (Nat.ble 0 (0+len*esz))) (bs (both (Nat.beq 0 0) (Nat.beq (len*esz) m.length)) (both (Nat.ble (m.length+n*esz) 17179869184) (k _ _)) _)))))))=_
 have e:Nat.beq (len*esz) m.length=true:=by rw [hm];simp
 rw [ble_dec 1 esz,bothd he,beq_dec esz esz,bothd rfl,beq_dec sver sver,bothd rfl,bothd rfl,both_t,beq_dec ver ver,bothd rfl,beq_dec elem elem,bothd rfl,ble_dec 0,bothd (Nat.zero_le _),e,ble_dec]
 show both (decide (m.length+n*esz≤17179869184)) _=_
 rw [bothd hle]
 exact K _ rfl q1 q2
theorem app_no (esz elem:Nat) (x:V) (h:H) (k:KV) (he:1≤esz) (hx:x=slnil∨∃ a b c d e,x=.sl a b c d e):app esz elem x slnil h k=k x h:=by
 rcases hx with rfl | ⟨a,b,c,d,e,rfl⟩ <;> (show both (Nat.ble 1 esz) _=_;rw [ble_dec,bothd he];rfl)
end Go.Bvm
set_option linter.unusedVariables false
namespace Go.Bvm
abbrev inR (x:Int):Prop:=-9223372036854775808≤x∧x<9223372036854775808
abbrev maxB:Nat:=140737488355328
noncomputable def pel (v:V) (i:Int) (o:Nat):V:=.p (slI v) (slO v+i.toNat*slE v+o) (slO v+slL v*slE v) (slV v)
@[simp] theorem fadV_pel (v:V) (i:Int) (o a:Nat) (k:V→Bool):fadV a (pel v i o) k=k (pel v i (o+a)):=by
 show k (.p _ (_+o+a) _ _)=k (.p _ (_+(o+a)) _ _)
 rw [Nat.add_assoc _ o a]
@[simp] theorem nilckV_pel (v:V) (i:Int) (o:Nat) (k:V→Bool):nilckV (pel v i o) k=k (pel v i o):=(Eq.refl _).trans rfl
def BkF (h:H) (id ver frz ty:Nat) (ex own:Bool) (l:List V):Prop:=∃ t,Bk h id ver frz t ex own l∧(own=true→t=ty)
theorem Bk.f {h:H} {id ver frz ty:Nat} {ex own:Bool} {l:List V} (b:Bk h id ver frz ty ex own l):BkF h id ver frz ty ex own l:=⟨ty,b,fun _=>rfl⟩
theorem BkF.eq {h h':H} {id ver frz ty:Nat} {ex own:Bool} {l:List V} (b:BkF h id ver frz ty ex own l) (e:hget id h'.tr=hget id h.tr):BkF h' id ver frz ty ex own l:=let ⟨t,b,q⟩:=b;⟨t,b.eq e,q⟩
theorem BkF.kd {h:H} {id ver frz ty:Nat} {ex own:Bool} {l:List V} (b:BkF h id ver frz ty ex own l):Go.Bvm.kd (hget id h.tr)=kR ty∨Go.Bvm.kd (hget id h.tr)=kO ty∨Go.Bvm.kd (hget id h.tr)=0:=by
 obtain ⟨t,b,q⟩:=b
 cases own with
 | false=>exact .inr (.inr b.kdF)
 | true=>
  obtain rfl:=q rfl
  rw [b.kd]
  cases ex
  ·exact .inl rfl
  ·exact .inr (.inl rfl)
theorem BkF.ld {h:H} {id ver frz ty:Nat} {ex own:Bool} {l:List V} (b:BkF h id ver frz ty ex own l) {n:Nat} (e:l.length=n) {off lim:Nat} (ho:off<n) (hl:off<lim) (k:V→Bool):ld1 (.p id off lim ver) h k=k (nth l off):=let ⟨_,b,_⟩:=b;b.ld e ho hl k
theorem BkF.lda {h:H} {id ver frz ty:Nat} {ex own:Bool} {l:List V} (b:BkF h id ver frz ty ex own l) {m:Nat} (e:l.length=m) {n off lim:Nat} (ho:off+n≤m) (hl:off+n≤lim) (k:V→Bool):Go.Bvm.lda n (.p id off lim ver) h k=k (.x .agg (vl ((l.drop off).take n)) V.nil):=let ⟨_,b,_⟩:=b;b.lda e ho hl k
def Row (X:List Nat) (h:H) (v:V) (ty n:Nat) (cs:List (List V)):Prop:=
 (∀ c∈cs,c.length=n)∧cs.length≤maxB∧((v=slnil∧cs=[])∨∃ id off ver frz ex own l,v=.sl id off cs.length ver n∧(id<h.next∧id∉X)∧BkF h id ver frz ty ex own l∧off+cs.length*n≤l.length∧(l.drop off).take (cs.length*n)=cs.flatten)
theorem flat_len {n:Nat}:∀ {cs:List (List V)},(∀ c∈cs,c.length=n)→cs.flatten.length=cs.length*n
 | [],_=>by simp
 | c::r,h=>by
  rw [List.flatten_cons,List.length_append,h c (by simp),flat_len (fun d hd=>h d (by simp [hd])),List.length_cons,Nat.add_mul,Nat.one_mul];omega
theorem flat_at {n:Nat}:∀ {cs:List (List V)} (i:Nat) {c:List V},(∀ c∈cs,c.length=n)→cs[i]?=some c→(cs.flatten.drop (i*n)).take n=c
 | [],i,c,_,e=>by simp at e
 | d::r,0,c,h,e=>by
  simp only [List.getElem?_cons_zero,Option.some.injEq] at e
  subst e
  rw [Nat.zero_mul,List.drop_zero,List.flatten_cons,← h d (by simp),List.take_append_of_le_length (Nat.le_refl _),List.take_length]
 | d::r,i+1,c,h,e=>by
  rw [List.flatten_cons,Nat.add_mul,Nat.one_mul,show i*n+n=d.length+i*n by rw [h d (by simp)];omega,← List.drop_drop,List.drop_append_of_le_length (Nat.le_refl _),List.drop_length,List.nil_append]
  exact flat_at i (fun x hx=>h x (by simp [hx])) (by simpa using e)
section
variable {X:List Nat} {h:H} {v:V} {ty n:Nat} {cs:List (List V)} (R:Row X h v ty n cs)
include R
theorem Row.lenL (k:V→Bool):Go.Bvm.lenL v k=k (wz cs.length):=by
 obtain ⟨_,hb,⟨rfl,rfl⟩ | ⟨id,off,ver,frz,ex,own,l,rfl,_⟩⟩:=R
 ·rfl
 ·have:maxB=140737488355328:=rfl
  exact lenL_sl _ _ _ _ _ (by omega) k
theorem Row.at {i:Int} {c:List V} (h0:0≤i) (hc:cs[i.toNat]?=some c):c.length=n∧(∀ k,iadV n v (wz i) k=k (pel v i 0))∧(∀ o k,o<n→ld1 (pel v i o) h k=k (nth c o))∧∀ o m k,o+m≤n→lda m (pel v i o) h k=k (.x .agg (vl ((c.drop o).take m)) V.nil):=by
 obtain ⟨hn,hb,⟨rfl,rfl⟩ | ⟨id,off,ver,frz,ex,own,l,rfl,hid,B,hl,hf⟩⟩:=R
 ·simp at hc
 obtain ⟨j,rfl⟩:=Int.eq_ofNat_of_zero_le h0
 have hj:j<cs.length:=by
  rcases Nat.lt_or_ge j cs.length with q | q
  ·exact q
  ·rw [List.getElem?_eq_none (by simpa using q)] at hc;simp at hc
 have hc':cs[j]?=some c:=hc
 have hcn:c.length=n:=hn c (List.mem_of_getElem? hc')
 have hjn:j*n+n≤cs.length*n:=by rw [← Nat.succ_mul];exact Nat.mul_le_mul_right _ hj
 have key:c=(l.drop (off+j*n)).take n:=by
  rw [← flat_at j hn hc',← hf,← List.drop_drop,List.drop_take,List.take_take,Nat.min_eq_left (by omega)]
 refine ⟨hcn,fun k=>iadV_z n id off cs.length ver j hj k,fun o k ho=>?_,fun o m k ho=>?_⟩
 ·rw [show pel (.sl id off cs.length ver n) (j:Int) o=.p id (off+j*n+o) (off+cs.length*n) ver from rfl,B.ld rfl (by omega) (by omega)]
  congr 1
  rw [nth_get (by omega),nth_get (by omega)]
  simp only [key,List.getElem_take,List.getElem_drop]
 ·rw [show pel (.sl id off cs.length ver n) (j:Int) o=.p id (off+j*n+o) (off+cs.length*n) ver from rfl,B.lda rfl (by omega) (by omega)]
  rw [key,List.drop_take,List.take_take,List.drop_drop,Nat.min_eq_left (by omega)]
theorem Row.gx {h':H} (n1:h.next≤h'.next) (F:∀ id,id<h.next→id∉X→kd (hget id h.tr)=kR ty∨kd (hget id h.tr)=kO ty∨kd (hget id h.tr)=0→hget id h'.tr=hget id h.tr):Row X h' v ty n cs:=by
 obtain ⟨hn,hl,q | ⟨id,off,ver,frz,ex,own,l,e,hid,B,h2⟩⟩:=R
 ·exact ⟨hn,hl,.inl q⟩
 ·exact ⟨hn,hl,.inr ⟨id,off,ver,frz,ex,own,l,e,⟨Nat.lt_of_lt_of_le hid.1 n1,hid.2⟩,B.eq (F id hid.1 hid.2 B.kd),h2⟩⟩
theorem Row.xm {X':List Nat} (hx:∀ i,i∈X'→i∉X→h.next≤i):Row X' h v ty n cs:=by
 obtain ⟨hn,hl,q | ⟨id,off,ver,frz,ex,own,l,e,hid,B,h2⟩⟩:=R
 ·exact ⟨hn,hl,.inl q⟩
 ·exact ⟨hn,hl,.inr ⟨id,off,ver,frz,ex,own,l,e,⟨hid.1,fun k=>by have:=hx id k hid.2;omega⟩,B,h2⟩⟩
end
def RowO (X:List Nat) (c:Nat) (h:H) (v:V) (ty n:Nat) (cs:List (List V)):Prop:=
 (∀ c∈cs,c.length=n)∧cs.length≤maxB∧((v=slnil∧cs=[])∨∃ id ver,v=.sl id 0 cs.length ver n∧c≤id∧(id<h.next∧id∉X)∧Bk h id ver 0 ty false true cs.flatten)
theorem RowO.nil (X:List Nat) (c:Nat) (h:H) (ty n:Nat):RowO X c h slnil ty n []:=⟨by simp,by simp,.inl ⟨rfl,rfl⟩⟩
theorem RowO.row {X:List Nat} {c:Nat} {h:H} {v:V} {ty n:Nat} {cs:List (List V)} (R:RowO X c h v ty n cs):Row X h v ty n cs:=by
 obtain ⟨hn,hl,q | ⟨id,ver,e,_,hid,B⟩⟩:=R
 ·exact ⟨hn,hl,.inl q⟩
 ·exact ⟨hn,hl,.inr ⟨id,0,ver,0,false,true,_,e,hid,B.f,by rw [flat_len hn];omega,by rw [List.drop_zero,List.take_of_length_le (by rw [flat_len hn];exact Nat.le_refl _)]⟩⟩
theorem RowO.one {X:List Nat} {c:Nat} {h:H} {v:V} {ty n:Nat} {cs:List (List V)} (R:RowO X c h v ty n cs):oneV v=true:=by
 obtain ⟨_,_,⟨rfl,_⟩ | ⟨id,ver,rfl,_⟩⟩:=R <;> rfl
theorem Row.one {X:List Nat} {h:H} {v:V} {ty n:Nat} {cs:List (List V)} (R:Row X h v ty n cs):oneV v=true:=by
 obtain ⟨_,_,⟨rfl,_⟩ | ⟨id,off,ver,frz,ex,own,l,rfl,_⟩⟩:=R <;> rfl
theorem RowO.gx {X:List Nat} {a:Nat} {h:H} {v:V} {ty n:Nat} {cs:List (List V)} (R:RowO X a h v ty n cs) {h':H} (n1:h.next≤h'.next) (F:∀ id,id<h.next→id∉X→kd (hget id h.tr)=kR ty→hget id h'.tr=hget id h.tr):RowO X a h' v ty n cs:=by
 obtain ⟨hn,hl,q | ⟨id,ver,e,ha,hid,B⟩⟩:=R
 ·exact ⟨hn,hl,.inl q⟩
 ·exact ⟨hn,hl,.inr ⟨id,ver,e,ha,⟨Nat.lt_of_lt_of_le hid.1 n1,hid.2⟩,B.eq (F id hid.1 hid.2 B.kd)⟩⟩
theorem RowO.xm {X X':List Nat} {a:Nat} {h:H} {v:V} {ty n:Nat} {cs:List (List V)} (R:RowO X a h v ty n cs) (hx:∀ i,i∈X'→i∉X→h.next≤i):RowO X' a h v ty n cs:=by
 obtain ⟨hn,hl,q | ⟨id,ver,e,ha,hid,B⟩⟩:=R
 ·exact ⟨hn,hl,.inl q⟩
 ·exact ⟨hn,hl,.inr ⟨id,ver,e,ha,⟨hid.1,fun k=>by have:=hx id k hid.2;omega⟩,B⟩⟩
theorem RowO.mono {X:List Nat} {a a':Nat} {h:H} {v:V} {ty n:Nat} {cs:List (List V)} (R:RowO X a h v ty n cs) (ha:a'≤a):RowO X a' h v ty n cs:=by
 obtain ⟨hn,hl,q | ⟨id,ver,e,h1,hid,B⟩⟩:=R
 ·exact ⟨hn,hl,.inl q⟩
 ·exact ⟨hn,hl,.inr ⟨id,ver,e,by omega,hid,B⟩⟩
noncomputable def rids (v:V):List Nat:=V.rec (motive:=fun _=>List Nat) (fun _=>[]) (fun _=>[]) (fun _=>[]) (fun _ _=>[]) (fun _ _ _ _=>[]) (fun id _ _ _ _=>[id]) (fun _ _ _ _ _=>[]) v
@[simp] theorem rids_sl (a b c d e:Nat):rids (.sl a b c d e)=[a]:=(Eq.refl _).trans rfl
@[simp] theorem rids_nil:rids slnil=[]:=(Eq.refl _).trans rfl
def Grown (x:V) (h h':H):Prop:=h.next≤h'.next∧∀ i,i<h.next→i∉rids x→hget i h'.tr=hget i h.tr
theorem RowO.app1 {X:List Nat} {c:Nat} {h:H} {x:V} {ty n i:Nat} {cs:List (List V)} (R:RowO X c h x ty n cs) {e:List V} {k:KV} (he:e.length=n) (hn:1≤n) (hi:i=h.next) (hn2:n≤4096) (hl:(cs.length+1)*n≤17179869184) (hc:c≤h.next) (hX:∀ j,j∈X→j<h.next)
  (K:∀ h' w,RowO X c h' w ty n (cs++[e])→Grown x h h'→(∀ j,j∈rids w→j∈rids x∨h.next≤j)→k w h'=true):bslA i 1 n ty (vl e) ⟨h.next+1,h.tr⟩ (fun v h1=>app n ty x v h1 k)=true:=by
 subst hi
 obtain ⟨hcn,hcl,q⟩:=R
 have hmB:maxB=140737488355328:=rfl
 have hcn':∀ d∈cs++[e],d.length=n:=fun d hd=>by
  simp only [List.mem_append,List.mem_cons,List.not_mem_nil,or_false] at hd
  rcases hd with z | rfl
  ·exact hcn d z
  ·exact he
 have hlen:cs.length+1≤17179869184:=Nat.le_trans (Nat.le_mul_of_pos_right _ hn) hl
 refine bslA_w (by omega) (by omega) fun h1 n1 b1 o1=>?_
 have n1':h1.next=h.next+1:=n1
 rcases q with ⟨rfl,rfl⟩ | ⟨id,ver,rfl,hci,hid,B⟩
 ·refine app_nil_w b1 hn (Nat.le_refl _) (by omega) (by simpa using hl) fun h2 n2 b2 o2=>K h2 _ ⟨hcn',by simp;omega,.inr ⟨h1.next,0,rfl,by omega,⟨by omega,fun k=>by have:=hX _ k;omega⟩,?_⟩⟩ ⟨by omega,fun j hj _=>?_⟩ (fun j hj=>.inr (by simp at hj;omega))
  ·rw [Nat.one_mul,List.drop_zero,List.take_of_length_le (by omega)] at b2
   simpa using b2
  ·rw [o2.2 j (by omega),o1.2 j (by omega)]
 ·have B1:=B.only (h':=h1) (id:=h.next) ⟨by omega,o1.2⟩ (by omega)
  have hfl:=flat_len hcn
  refine app_row_w b1 B1 hn (Nat.le_refl _) (by omega) (by omega) (by rw [hfl,← Nat.add_mul];exact hl) fun h2 n2 b2 o2=>K h2 _ ⟨hcn',by simp;omega,.inr ⟨id,ver+1,by simp,hci,⟨by omega,hid.2⟩,?_⟩⟩ ⟨by omega,fun j hj hx=>?_⟩ (fun j hj=>.inl hj)
  ·rw [Nat.one_mul,List.drop_zero,List.take_of_length_le (by omega)] at b2
   simpa using b2
  ·rw [o2.2 j (by simpa using hx),o1.2 j (by omega)]
theorem RowO.rids {X:List Nat} {c:Nat} {h:H} {x:V} {ty n:Nat} {cs:List (List V)} (R:RowO X c h x ty n cs) {i:Nat} (hi:i∈Go.Bvm.rids x):c≤i∧i<h.next∧i∉X∧kd (hget i h.tr)=kR ty:=by
 obtain ⟨_,_,⟨rfl,_⟩ | ⟨id,ver,rfl,hci,hid,B⟩⟩:=R
 ·simp at hi
 ·simp only [rids_sl,List.mem_cons,List.not_mem_nil,or_false] at hi
  subst hi
  exact ⟨hci,hid.1,hid.2,B.kd⟩
theorem Grown.fz {X:List Nat} {c:Nat} {h h':H} {x:V} {ty n:Nat} {cs:List (List V)} (g:Grown x h h') (R:RowO X c h x ty n cs) (hc:c≤h.next):Fz c h.next [kR ty] h h':=
 ⟨g.1,fun i hi=>g.2 i (by omega) fun k=>by have:=(R.rids k).1;omega,fun i hi hM=>g.2 i hi fun k=>by
  have:=(R.rids k).2.2.2
  simp only [List.mem_cons,List.not_mem_nil,or_false] at hM
  exact hM this⟩
class Enc (α:Type) where
 n:Nat
 ty:Nat
 ks:List Nat
 rep:List Nat→H→List V→α→Prop
 len:∀ {X h c x},rep X h c x→c.length=n
 gx:∀ {X h h' c x},rep X h c x→h.next≤h'.next→(∀ id,id<h.next→id∉X→kd (hget id h.tr)∈ks→hget id h'.tr=hget id h.tr)→rep X h' c x
 xm:∀ {X X' h c x},rep X h c x→(∀ i,i∈X'→i∉X→h.next≤i)→rep X' h c x
section
variable {α:Type} [Enc α] {X:List Nat} {h h':H}
theorem Enc.fz {c:List V} {x:α} {a b:Nat} {M:List Nat} (r:Enc.rep X h c x) (F:Fz a b M h h') (hb:h.next≤b) (d:∀ k,k∈Enc.ks α→k∉M):Enc.rep X h' c x:=
 Enc.gx r F.nx fun id hi _ hk=>F.hi id (by omega) (d _ hk)
def All (X:List Nat) (h:H) (cs:List (List V)) (xs:List α):Prop:=cs.length=xs.length∧∀ (i:Nat) (c:List V) (x:α),cs[i]?=some c→xs[i]?=some x→Enc.rep X h c x
theorem All.gx {cs:List (List V)} {xs:List α} (A:All X h cs xs) (n1:h.next≤h'.next) (F:∀ id,id<h.next→id∉X→kd (hget id h.tr)∈Enc.ks α→hget id h'.tr=hget id h.tr):All X h' cs xs:=⟨A.1,fun i c x e1 e2=>Enc.gx (A.2 i c x e1 e2) n1 F⟩
theorem All.xm {X':List Nat} {cs:List (List V)} {xs:List α} (A:All X h cs xs) (hx:∀ i,i∈X'→i∉X→h.next≤i):All X' h cs xs:=⟨A.1,fun i c x e1 e2=>Enc.xm (A.2 i c x e1 e2) hx⟩
theorem All.nil (X:List Nat) (h:H):All X h [] ([]:List α):=⟨rfl,fun i c x e=>by simp at e⟩
theorem All.snoc {cs:List (List V)} {xs:List α} {c:List V} {x:α} (A:All X h cs xs) (e:Enc.rep X h c x):All X h (cs++[c]) (xs++[x]):=by
 refine ⟨by simp [A.1],fun i d y e1 e2=>?_⟩
 by_cases hi:i<cs.length
 ·rw [List.getElem?_append_left hi] at e1
  rw [List.getElem?_append_left (by rw [← A.1];exact hi)] at e2
  exact A.2 i d y e1 e2
 ·rw [List.getElem?_append_right (by omega)] at e1
  rw [List.getElem?_append_right (by rw [← A.1];omega),← A.1] at e2
  rcases Nat.eq_zero_or_pos (i-cs.length) with z | z
  ·rw [z] at e1 e2;simp at e1 e2;subst e1 e2;exact e
  ·rw [List.getElem?_eq_none (by simpa using Nat.succ_le_of_lt z)] at e1;simp at e1
def Sl (X:List Nat) (h:H) (v:V) (xs:List α):Prop:=∃ cs,Row X h v (Enc.ty α) (Enc.n α) cs∧All X h cs xs
def SlO (X:List Nat) (c:Nat) (h:H) (v:V) (xs:List α):Prop:=∃ cs,RowO X c h v (Enc.ty α) (Enc.n α) cs∧All X h cs xs
abbrev ksl (α:Type) [Enc α]:List Nat:=0::kR (Enc.ty α)::kO (Enc.ty α)::Enc.ks α
abbrev kso (α:Type) [Enc α]:List Nat:=kR (Enc.ty α)::Enc.ks α
variable {v:V} {xs:List α}
theorem SlO.nil (X:List Nat) (c:Nat) (h:H):SlO X c h slnil ([]:List α):=⟨[],.nil _ _ _ _ _,.nil X h⟩
theorem Sl.nil (X:List Nat) (h:H):Sl X h slnil ([]:List α):=⟨[],(RowO.nil X 0 h _ _).row,.nil X h⟩
theorem SlO.sl {c:Nat} (S:SlO X c h v xs):Sl X h v xs:=let ⟨cs,R,A⟩:=S;⟨cs,R.row,A⟩
theorem Sl.one (S:Sl X h v xs):oneV v=true:=let ⟨_,R,_⟩:=S;R.one
theorem Sl.bd (S:Sl X h v xs):xs.length≤maxB:=let ⟨cs,R,A⟩:=S;by rw [← A.1];exact R.2.1
theorem Sl.lenL (S:Sl X h v xs) (k:V→Bool):Go.Bvm.lenL v k=k (wz xs.length):=by
 obtain ⟨cs,R,A⟩:=S;rw [R.lenL,A.1]
theorem Sl.at (S:Sl X h v xs) {i:Int} {x:α} (h0:0≤i) (hx:xs[i.toNat]?=some x) :
  ∃ c,Enc.rep X h c x∧(∀ k,iadV (Enc.n α) v (wz i) k=k (pel v i 0))∧(∀ o k,o<Enc.n α→ld1 (pel v i o) h k=k (nth c o))∧∀ o m k,o+m≤Enc.n α→lda m (pel v i o) h k=k (.x .agg (vl ((c.drop o).take m)) V.nil):=by
 obtain ⟨cs,R,A⟩:=S
 have hi:i.toNat<cs.length:=by
  rw [A.1]
  rcases Nat.lt_or_ge i.toNat xs.length with q | q
  ·exact q
  ·rw [List.getElem?_eq_none q] at hx;simp at hx
 have hc:cs[i.toNat]?=some cs[i.toNat]:=List.getElem?_eq_getElem hi
 obtain ⟨_,a1,a2,a3⟩:=R.at h0 hc
 exact ⟨_,A.2 _ _ _ hc hx,a1,a2,a3⟩
theorem Sl.gx (S:Sl X h v xs) (n1:h.next≤h'.next) (F:∀ id,id<h.next→id∉X→kd (hget id h.tr)∈ksl α→hget id h'.tr=hget id h.tr):Sl X h' v xs:=
 let ⟨cs,R,A⟩:=S;⟨cs,R.gx n1 fun id a b c=>F id a b (by rcases c with z | z | z <;> simp [z]),A.gx n1 fun id a b c=>F id a b (by simp [c])⟩
theorem SlO.gx {c:Nat} (S:SlO X c h v xs) (n1:h.next≤h'.next) (F:∀ id,id<h.next→id∉X→kd (hget id h.tr)∈kso α→hget id h'.tr=hget id h.tr):SlO X c h' v xs:=
 let ⟨cs,R,A⟩:=S;⟨cs,R.gx n1 fun id a b c=>F id a b (by simp [c]),A.gx n1 fun id a b c=>F id a b (by simp [c])⟩
theorem Sl.xm {X':List Nat} (S:Sl X h v xs) (hx:∀ i,i∈X'→i∉X→h.next≤i):Sl X' h v xs:=let ⟨cs,R,A⟩:=S;⟨cs,R.xm hx,A.xm hx⟩
theorem SlO.xm {X':List Nat} {c:Nat} (S:SlO X c h v xs) (hx:∀ i,i∈X'→i∉X→h.next≤i):SlO X' c h v xs:=let ⟨cs,R,A⟩:=S;⟨cs,R.xm hx,A.xm hx⟩
theorem SlO.gxx {X':List Nat} {c:Nat} (S:SlO X c h v xs) (n1:h.next≤h'.next) (hx:∀ i,i∈X'→i∉X→h.next≤i) (F:∀ id,id<h.next→id∉X→kd (hget id h.tr)∈kso α→hget id h'.tr=hget id h.tr):SlO X' c h' v xs:=
 ((S.xm (X':=X'++X) fun i a b=>by rcases List.mem_append.1 a with k | k;exact hx i k b;exact absurd k b).gx n1 fun id a b k=>F id a (fun z=>b (List.mem_append.2 (.inr z))) k).xm fun i a b=>absurd (List.mem_append.2 (.inl a)) b
theorem Sl.fz {a b:Nat} {M:List Nat} (S:Sl X h v xs) (F:Fz a b M h h') (hb:h.next≤b) (d:∀ k,k∈ksl α→k∉M):Sl X h' v xs:=S.gx F.nx fun id hi _ hk=>F.hi id (by omega) (d _ hk)
theorem SlO.fz {c a b:Nat} {M:List Nat} (S:SlO X c h v xs) (F:Fz a b M h h') (hb:h.next≤b) (d:∀ k,k∈kso α→k∉M):SlO X c h' v xs:=S.gx F.nx fun id hi _ hk=>F.hi id (by omega) (d _ hk)
theorem SlO.mono {c c':Nat} (S:SlO X c h v xs) (hc:c'≤c):SlO X c' h v xs:=let ⟨cs,R,A⟩:=S;⟨cs,R.mono hc,A⟩
theorem SlO.rids {c:Nat} (S:SlO X c h v xs) {i:Nat} (hi:i∈Go.Bvm.rids v):c≤i∧i<h.next∧i∉X∧kd (hget i h.tr)=kR (Enc.ty α):=let ⟨_,R,_⟩:=S;R.rids hi
theorem SlO.app1 {c i:Nat} (S:SlO X c h v xs) {e:List V} {x:α} {k:KV} (E:Enc.rep X h e x) (hn:1≤Enc.n α) (hi:i=h.next) (hn2:Enc.n α≤4096) (hl:(xs.length+1)*Enc.n α≤17179869184) (hc:c≤h.next) (hX:∀ j,j∈X→j<h.next) (d:kR (Enc.ty α)∉Enc.ks α)
  (K:∀ h' w,SlO X c h' w (xs++[x])→Grown v h h'→(∀ j,j∈Go.Bvm.rids w→j∈Go.Bvm.rids v∨h.next≤j)→Fz c h.next [kR (Enc.ty α)] h h'→k w h'=true):bslA i 1 (Enc.n α) (Enc.ty α) (vl e) ⟨h.next+1,h.tr⟩ (fun v' h1=>app (Enc.n α) (Enc.ty α) v v' h1 k)=true:=by
 obtain ⟨cs,R,A⟩:=S
 refine R.app1 (Enc.len E) hn hi hn2 (by rw [A.1];exact hl) hc hX fun h' w R' g gw=>?_
 have F:=g.fz R hc
 exact K h' w ⟨_,R',(A.snoc E).gx g.1 fun id a _ q=>F.hi id a fun e=>by
  simp only [List.mem_cons,List.not_mem_nil,or_false] at e
  rw [e] at q;exact d q⟩ g gw F
end
theorem Fz.loc {c c' b b':Nat} {M M':List Nat} {h h1 h2:H} (x:Fz c b M h h1) (y:Fz c' b' M' h1 h2) (hc:c≤c') (hb:b≤c'):Fz c b M h h2:=
 ⟨Nat.le_trans x.nx y.nx,fun id i=>(y.lo id (by omega)).trans (x.lo id i),fun id i n=>(y.lo id (by omega)).trans (x.hi id i n)⟩
end Go.Bvm
set_option linter.unusedVariables false
namespace Go.Bvm
abbrev f8 (a b c d e f g i:V):L8:=⟨⟨a,b,c,d,e,f,g,i⟩,n8 V.u,n8 V.u,n8 V.u,n8 V.u,n8 V.u,n8 V.u,n8 V.u⟩
theorem loop_w {body:M} {K:KX} (I:Nat→L8→H→Prop)
  (step:∀ m e h,I m e h→∀ K':KX,(∀ m' e' h',m'<m→I m' e' h'→K' X.n e' h'=true)→(∀ i e' h',K (.x i) e' h'=true→K' (.x i) e' h'=true)→(∀ e' h',K .r e' h'=true→K' .r e' h'=true)→body e h K'=true) :
  ∀ (lf m:Nat) (e:L8) (h:H),I m e h→m<lf→loopM lf body e h K=true
 | 0,m,e,h,i,l=>by omega
 | lf+1,m,e,h,i,l=>by
  rw [loopM_succ]
  exact step m e h i _ (fun m' e' h' hm hi=>loop_w I step lf m' e' h' hi (by omega)) (fun i e' h' q=>q) (fun e' h' q=>q)
@[simp] theorem seqX_n (a:Bool) (b:Nat→Bool) (c:Bool):X.rec (motive:=fun _=>Bool) a b c X.n=a:=(Eq.refl _).trans rfl
@[simp] theorem bs_dec {α:Type} (p:Prop) [Decidable p] (x y:α):bs (decide p) x y=if p then x else y:=by by_cases h:p <;> simp [h,bs]
@[simp] theorem bs_t {α:Type} (x y:α):bs true x y=x:=(Eq.refl _).trans rfl
@[simp] theorem bs_f {α:Type} (x y:α):bs false x y=y:=(Eq.refl _).trans rfl
@[simp] theorem resv0 (h:H) (k:Nat→H→Bool):resv 0 h k=k h.next h:=by rw [resv_eq];rfl
@[simp] theorem bs_not {α:Type} (b:Bool) (x y:α):bs (!b) x y=bs b y x:=by cases b <;> rfl
theorem getE? {α:Type} {l:List α} {i:Nat} (h:i<l.length):l[i]?=some l[i]:=List.getElem?_eq_getElem h
@[simp] theorem ld1_up (x:V) (n:Nat) (h:H) (k:V→Bool):ld1 x ⟨n,h.tr⟩ k=ld1 x h k:=(Eq.refl _).trans rfl
@[simp] theorem lda_up (m:Nat) (x:V) (n:Nat) (h:H) (k:V→Bool):lda m x ⟨n,h.tr⟩ k=lda m x h k:=(Eq.refl _).trans rfl
def yLt (a b:UInt8):Bool:=decide (a<b)
def yLe (a b:UInt8):Bool:=decide (a≤b)
@[simp] theorem lssY_b (a b:UInt8) (k:V→Bool):lssY (vy a) (vy b) k=k (.t (yLt a b)):=lssY_y a b k
@[simp] theorem gtrY_b (a b:UInt8) (k:V→Bool):gtrY (vy a) (vy b) k=k (.t (yLt b a)):=gtrY_y a b k
@[simp] theorem leqY_b (a b:UInt8) (k:V→Bool):leqY (vy a) (vy b) k=k (.t (yLe a b)):=leqY_y a b k
@[simp] theorem geqY_b (a b:UInt8) (k:V→Bool):geqY (vy a) (vy b) k=k (.t (yLe b a)):=geqY_y a b k
@[simp] theorem ext_0 (a b:V) (l:List V) (k:V→Bool):ext 0 (.x .tup (vl (a::l)) b) k=k a:=(Eq.refl _).trans rfl
@[simp] theorem ext_1 (a a' b:V) (l:List V) (k:V→Bool):ext 1 (.x .tup (vl (a::a'::l)) b) k=k a':=(Eq.refl _).trans rfl
@[simp] theorem ext_2 (a a' a'' b:V) (l:List V) (k:V→Bool):ext 2 (.x .tup (vl (a::a'::a''::l)) b) k=k a'':=(Eq.refl _).trans rfl
@[simp] theorem ext_3 (a a' a'' a3 b:V) (l:List V) (k:V→Bool):ext 3 (.x .tup (vl (a::a'::a''::a3::l)) b) k=k a3:=(Eq.refl _).trans rfl
@[simp] theorem sdata_nil (k:V→Bool):sdata (.x .slnil V.nil V.nil) k=k (.x .pnil V.nil V.nil):=(Eq.refl _).trans rfl
@[simp] theorem eqPt_nil (f:Bool→Bool) (k:V→Bool):eqPt f (.x .pnil V.nil V.nil) (.x .pnil V.nil V.nil) k=k (.t (f true)):=(Eq.refl _).trans rfl
@[simp] theorem eqPt_pn (f:Bool→Bool) (a b c d:Nat) (k:V→Bool):eqPt f (.p a b c d) (.x .pnil V.nil V.nil) k=k (.t (f false)):=(Eq.refl _).trans rfl
@[simp] theorem eqPt_pp (f:Bool→Bool) (a b c d:Nat) (k:V→Bool):eqPt f (.p a b c d) (.p a b c d) k=k (.t (f true)):=by
 show both (Nat.beq a a) (both (Nat.beq b b) (both (Nat.beq d d) (k (.t (f true)))))=_
 rw [beq_dec,beq_dec,beq_dec,bothd rfl,bothd rfl,bothd rfl]
theorem vput_one (v:V) (k:V→Bool):∀ (l:List V) (off:Nat),off<l.length→vput (vl l) off (.x .cons v V.nil) k=k (vl (l.set off v))
 | [],off,h=>by simp at h
 | w::r,0,_=>by
  cases r with
  | nil=>rfl
  | cons x r=>rfl
 | w::r,off+1,h=>by
  show vput (vl r) off (.x .cons v V.nil) (fun q=>k (.x .cons w q))=_
  rw [vput_one v _ r off (by simpa using h)]
  rfl
@[simp] theorem oneV_wz (n:Int):oneV (wz n)=true:=rfl
@[simp] theorem oneV_vs (s:List UInt8):oneV (vs s)=true:=rfl
@[simp] theorem oneV_vy (b:UInt8):oneV (vy b)=true:=rfl
@[simp] theorem oneV_t (b:Bool):oneV (.t b)=true:=rfl
theorem part_one (off:Nat) (v:V) (l:List V) (hv:oneV v=true) (ho:off<l.length) (k:V→Bool):part off true 1 v (vl l) k=k (vl (l.set off v)):=by
 show both (Nat.beq 1 1) (both (oneV v) (vput (vl l) off (.x .cons v V.nil) k))=_
 rw [hv,both_t,vput_one v k l off ho]
 rfl
@[simp] theorem part_w0 (n:Int) (a0:V) (l:List V) (k:V→Bool):part 0 true 1 (wz n) (vl (a0::l)) k=k (vl ((wz n)::l)):=(part_one 0 (wz n) _ rfl (by simp) k).trans rfl
@[simp] theorem part_w1 (n:Int) (a0 a1:V) (l:List V) (k:V→Bool):part 1 true 1 (wz n) (vl (a0::a1::l)) k=k (vl (a0::(wz n)::l)):=(part_one 1 (wz n) _ rfl (by simp) k).trans rfl
@[simp] theorem part_w2 (n:Int) (a0 a1 a2:V) (l:List V) (k:V→Bool):part 2 true 1 (wz n) (vl (a0::a1::a2::l)) k=k (vl (a0::a1::(wz n)::l)):=(part_one 2 (wz n) _ rfl (by simp) k).trans rfl
@[simp] theorem part_w3 (n:Int) (a0 a1 a2 a3:V) (l:List V) (k:V→Bool):part 3 true 1 (wz n) (vl (a0::a1::a2::a3::l)) k=k (vl (a0::a1::a2::(wz n)::l)):=(part_one 3 (wz n) _ rfl (by simp) k).trans rfl
@[simp] theorem part_w4 (n:Int) (a0 a1 a2 a3 a4:V) (l:List V) (k:V→Bool):part 4 true 1 (wz n) (vl (a0::a1::a2::a3::a4::l)) k=k (vl (a0::a1::a2::a3::(wz n)::l)):=(part_one 4 (wz n) _ rfl (by simp) k).trans rfl
@[simp] theorem part_w5 (n:Int) (a0 a1 a2 a3 a4 a5:V) (l:List V) (k:V→Bool):part 5 true 1 (wz n) (vl (a0::a1::a2::a3::a4::a5::l)) k=k (vl (a0::a1::a2::a3::a4::(wz n)::l)):=(part_one 5 (wz n) _ rfl (by simp) k).trans rfl
@[simp] theorem part_w6 (n:Int) (a0 a1 a2 a3 a4 a5 a6:V) (l:List V) (k:V→Bool):part 6 true 1 (wz n) (vl (a0::a1::a2::a3::a4::a5::a6::l)) k=k (vl (a0::a1::a2::a3::a4::a5::(wz n)::l)):=(part_one 6 (wz n) _ rfl (by simp) k).trans rfl
@[simp] theorem part_w7 (n:Int) (a0 a1 a2 a3 a4 a5 a6 a7:V) (l:List V) (k:V→Bool):part 7 true 1 (wz n) (vl (a0::a1::a2::a3::a4::a5::a6::a7::l)) k=k (vl (a0::a1::a2::a3::a4::a5::a6::(wz n)::l)):=(part_one 7 (wz n) _ rfl (by simp) k).trans rfl
@[simp] theorem part_s0 (n:List UInt8) (a0:V) (l:List V) (k:V→Bool):part 0 true 1 (vs n) (vl (a0::l)) k=k (vl ((vs n)::l)):=(part_one 0 (vs n) _ rfl (by simp) k).trans rfl
@[simp] theorem part_s1 (n:List UInt8) (a0 a1:V) (l:List V) (k:V→Bool):part 1 true 1 (vs n) (vl (a0::a1::l)) k=k (vl (a0::(vs n)::l)):=(part_one 1 (vs n) _ rfl (by simp) k).trans rfl
@[simp] theorem part_s2 (n:List UInt8) (a0 a1 a2:V) (l:List V) (k:V→Bool):part 2 true 1 (vs n) (vl (a0::a1::a2::l)) k=k (vl (a0::a1::(vs n)::l)):=(part_one 2 (vs n) _ rfl (by simp) k).trans rfl
@[simp] theorem part_s3 (n:List UInt8) (a0 a1 a2 a3:V) (l:List V) (k:V→Bool):part 3 true 1 (vs n) (vl (a0::a1::a2::a3::l)) k=k (vl (a0::a1::a2::(vs n)::l)):=(part_one 3 (vs n) _ rfl (by simp) k).trans rfl
@[simp] theorem part_s4 (n:List UInt8) (a0 a1 a2 a3 a4:V) (l:List V) (k:V→Bool):part 4 true 1 (vs n) (vl (a0::a1::a2::a3::a4::l)) k=k (vl (a0::a1::a2::a3::(vs n)::l)):=(part_one 4 (vs n) _ rfl (by simp) k).trans rfl
@[simp] theorem part_s5 (n:List UInt8) (a0 a1 a2 a3 a4 a5:V) (l:List V) (k:V→Bool):part 5 true 1 (vs n) (vl (a0::a1::a2::a3::a4::a5::l)) k=k (vl (a0::a1::a2::a3::a4::(vs n)::l)):=(part_one 5 (vs n) _ rfl (by simp) k).trans rfl
@[simp] theorem part_s6 (n:List UInt8) (a0 a1 a2 a3 a4 a5 a6:V) (l:List V) (k:V→Bool):part 6 true 1 (vs n) (vl (a0::a1::a2::a3::a4::a5::a6::l)) k=k (vl (a0::a1::a2::a3::a4::a5::(vs n)::l)):=(part_one 6 (vs n) _ rfl (by simp) k).trans rfl
@[simp] theorem part_s7 (n:List UInt8) (a0 a1 a2 a3 a4 a5 a6 a7:V) (l:List V) (k:V→Bool):part 7 true 1 (vs n) (vl (a0::a1::a2::a3::a4::a5::a6::a7::l)) k=k (vl (a0::a1::a2::a3::a4::a5::a6::(vs n)::l)):=(part_one 7 (vs n) _ rfl (by simp) k).trans rfl
@[simp] theorem part_t0 (n:Bool) (a0:V) (l:List V) (k:V→Bool):part 0 true 1 (.t n) (vl (a0::l)) k=k (vl ((.t n)::l)):=(part_one 0 (.t n) _ rfl (by simp) k).trans rfl
@[simp] theorem part_t1 (n:Bool) (a0 a1:V) (l:List V) (k:V→Bool):part 1 true 1 (.t n) (vl (a0::a1::l)) k=k (vl (a0::(.t n)::l)):=(part_one 1 (.t n) _ rfl (by simp) k).trans rfl
@[simp] theorem part_t2 (n:Bool) (a0 a1 a2:V) (l:List V) (k:V→Bool):part 2 true 1 (.t n) (vl (a0::a1::a2::l)) k=k (vl (a0::a1::(.t n)::l)):=(part_one 2 (.t n) _ rfl (by simp) k).trans rfl
@[simp] theorem part_t3 (n:Bool) (a0 a1 a2 a3:V) (l:List V) (k:V→Bool):part 3 true 1 (.t n) (vl (a0::a1::a2::a3::l)) k=k (vl (a0::a1::a2::(.t n)::l)):=(part_one 3 (.t n) _ rfl (by simp) k).trans rfl
@[simp] theorem part_t4 (n:Bool) (a0 a1 a2 a3 a4:V) (l:List V) (k:V→Bool):part 4 true 1 (.t n) (vl (a0::a1::a2::a3::a4::l)) k=k (vl (a0::a1::a2::a3::(.t n)::l)):=(part_one 4 (.t n) _ rfl (by simp) k).trans rfl
@[simp] theorem part_t5 (n:Bool) (a0 a1 a2 a3 a4 a5:V) (l:List V) (k:V→Bool):part 5 true 1 (.t n) (vl (a0::a1::a2::a3::a4::a5::l)) k=k (vl (a0::a1::a2::a3::a4::(.t n)::l)):=(part_one 5 (.t n) _ rfl (by simp) k).trans rfl
@[simp] theorem part_t6 (n:Bool) (a0 a1 a2 a3 a4 a5 a6:V) (l:List V) (k:V→Bool):part 6 true 1 (.t n) (vl (a0::a1::a2::a3::a4::a5::a6::l)) k=k (vl (a0::a1::a2::a3::a4::a5::(.t n)::l)):=(part_one 6 (.t n) _ rfl (by simp) k).trans rfl
@[simp] theorem part_t7 (n:Bool) (a0 a1 a2 a3 a4 a5 a6 a7:V) (l:List V) (k:V→Bool):part 7 true 1 (.t n) (vl (a0::a1::a2::a3::a4::a5::a6::a7::l)) k=k (vl (a0::a1::a2::a3::a4::a5::a6::(.t n)::l)):=(part_one 7 (.t n) _ rfl (by simp) k).trans rfl
@[simp] theorem part_y0 (n:UInt8) (a0:V) (l:List V) (k:V→Bool):part 0 true 1 (vy n) (vl (a0::l)) k=k (vl ((vy n)::l)):=(part_one 0 (vy n) _ rfl (by simp) k).trans rfl
@[simp] theorem part_y1 (n:UInt8) (a0 a1:V) (l:List V) (k:V→Bool):part 1 true 1 (vy n) (vl (a0::a1::l)) k=k (vl (a0::(vy n)::l)):=(part_one 1 (vy n) _ rfl (by simp) k).trans rfl
@[simp] theorem part_y2 (n:UInt8) (a0 a1 a2:V) (l:List V) (k:V→Bool):part 2 true 1 (vy n) (vl (a0::a1::a2::l)) k=k (vl (a0::a1::(vy n)::l)):=(part_one 2 (vy n) _ rfl (by simp) k).trans rfl
@[simp] theorem part_y3 (n:UInt8) (a0 a1 a2 a3:V) (l:List V) (k:V→Bool):part 3 true 1 (vy n) (vl (a0::a1::a2::a3::l)) k=k (vl (a0::a1::a2::(vy n)::l)):=(part_one 3 (vy n) _ rfl (by simp) k).trans rfl
@[simp] theorem part_y4 (n:UInt8) (a0 a1 a2 a3 a4:V) (l:List V) (k:V→Bool):part 4 true 1 (vy n) (vl (a0::a1::a2::a3::a4::l)) k=k (vl (a0::a1::a2::a3::(vy n)::l)):=(part_one 4 (vy n) _ rfl (by simp) k).trans rfl
@[simp] theorem part_y5 (n:UInt8) (a0 a1 a2 a3 a4 a5:V) (l:List V) (k:V→Bool):part 5 true 1 (vy n) (vl (a0::a1::a2::a3::a4::a5::l)) k=k (vl (a0::a1::a2::a3::a4::(vy n)::l)):=(part_one 5 (vy n) _ rfl (by simp) k).trans rfl
@[simp] theorem part_y6 (n:UInt8) (a0 a1 a2 a3 a4 a5 a6:V) (l:List V) (k:V→Bool):part 6 true 1 (vy n) (vl (a0::a1::a2::a3::a4::a5::a6::l)) k=k (vl (a0::a1::a2::a3::a4::a5::(vy n)::l)):=(part_one 6 (vy n) _ rfl (by simp) k).trans rfl
@[simp] theorem part_y7 (n:UInt8) (a0 a1 a2 a3 a4 a5 a6 a7:V) (l:List V) (k:V→Bool):part 7 true 1 (vy n) (vl (a0::a1::a2::a3::a4::a5::a6::a7::l)) k=k (vl (a0::a1::a2::a3::a4::a5::a6::(vy n)::l)):=(part_one 7 (vy n) _ rfl (by simp) k).trans rfl
theorem vput_all:∀ (m l:List V) (k:V→Bool),m.length=l.length→vput (vl l) 0 (vl m) k=k (vl m)
 | [],[],k,_=>rfl
 | [a],[b],k,_=>rfl
 | a::c::m,b::d::l,k,h=>by
  show vput (vl (d::l)) 0 (vl (c::m)) (fun r=>k (.x .cons a r))=_
  rw [vput_all (c::m) (d::l) _ (by simpa using h)];rfl
theorem vlen_vl:∀ l:List V,vlen (vl l)=l.length
 | []=>rfl
 | _::r=>by show vlen (vl r)+1=_;rw [vlen_vl r];rfl
@[simp] theorem part_all {n:Nat} (m l:List V) (t:V) (k:V→Bool) (h:m.length=n) (h2:l.length=n):part 0 false n (.x .agg (vl m) t) (vl l) k=k (vl m):=by
 subst h
 show both (Nat.beq (vlen (vl m)) m.length) (vput (vl l) 0 (vl m) k)=_
 rw [vlen_vl,beq_dec,bothd rfl,vput_all m l k h2.symm]
end Go.Bvm
set_option linter.unusedVariables false
namespace Go.Bvm
def FO (h:H):Prop:=∀ id,hget id h.tr=.nb∨(∃ c s v f e x,hget id h.tr=.bk c s v f e x false)∨∃ a b c,hget id h.tr=.pin a b c
theorem FO.no {h:H} (F:FO h) (id:Nat):owns (hget id h.tr)=false:=by
 rcases F id with e | ⟨c,s,v,f,e,x,q⟩ | ⟨a,b,c,q⟩
 ·rw [e];rfl
 ·rw [q];rfl
 ·rw [q];rfl
theorem Rel.imp {φ:Phi} {h:H} {w:World} (R:Rel φ h w) (F:FO h) {vs:List V} {B o:Nat} {cs:Array Value} {elem:Nat} {fr:Nat×Nat} (hB:w.heap[B]?=some (.cells cs elem fr)) (hsz:o+vs.length≤cs.size)
  (hv:∀ i (hi:i<vs.length),∃ v,cs[o+i]?=some v∧RV φ vs[i] v∧v.oneCell'=true) :
  ∃ φ' h',Rel φ' h' w∧φ.le φ'∧FO h'∧φ' h.next 0=some ⟨B,o,vs.length,cs.size⟩∧Bk h' h.next 0 0 elem false false vs∧h'.next=h.next+1∧Only h h' h.next:=by
 have hnone:=R.fresh
 have hle:=φ.le_add h.next 0 ⟨B,o,vs.length,cs.size⟩ (hnone 0)
 have hBlt:B<w.heap.size:=by
  by_cases k:B<w.heap.size
  ·exact k
  ·rw [Array.getElem?_eq_none (by omega)] at hB;simp at hB
 obtain ⟨b,hb⟩ : ∃ b,b=Blk.bk (.al vs.length fun i=>vs.getD i V.u) vs.length 0 0 elem false false:=⟨_,rfl⟩
 have hg:∀ i,hget i (hset h.next b h.tr)=if i=h.next then b else hget i h.tr:=fun i=>hget_hset _ _ _ _ (Nat.zero_le _) (Nat.zero_le _)
 have hsame:∀ i,i≠h.next→∀ v,φ.add h.next 0 ⟨B,o,vs.length,cs.size⟩ i v=φ i v:=fun i hi v=>Phi.add_other _ _ fun q=>hi q.1
 refine ⟨φ.add h.next 0 ⟨B,o,vs.length,cs.size⟩,⟨h.next+1,hset h.next b h.tr⟩,⟨Nat.zero_le _,?_,?_,?_⟩,hle,?_,Phi.add_same _ _ _ _,?_,rfl,⟨Nat.le_succ _,fun i hi=>by show hget i (hset h.next b h.tr)=_;rw [hg,if_neg hi]⟩⟩
 ·intro id v l e
  by_cases q:id=h.next
  ·subst q
   by_cases z:v=0
   ·subst z
    rw [Phi.add_same] at e
    cases e
    exact ⟨Nat.lt_succ_self _,hBlt,hsz⟩
   ·rw [Phi.add_other _ _ (fun q=>z q.2),hnone] at e;simp at e
  ·rw [hsame id q] at e
   have:=R.dom id v l e
   exact ⟨by show id<h.next+1;omega,this.2⟩
 ·intro id _
  show BlkOk _ w id (hget id (hset h.next b h.tr))
  rw [hg]
  by_cases q:id=h.next
  ·subst q
   rw [if_pos rfl,hb]
   refine ⟨_,cs,fr,Phi.add_same _ _ _ _,rfl,hB,rfl,hsz,Nat.le_refl _,fun i hi=>?_,fun v hv=>by rw [Phi.add_other _ _ (by omega)];exact hnone v,fun k=>by simp at k,fun k=>by simp at k⟩
   obtain ⟨v,a,r,one⟩:=hv i hi
   refine ⟨v,a,?_,one⟩
   show RV _ (vs.getD i V.u) v
   rw [List.getD_eq_getElem?_getD,List.getElem?_eq_getElem hi]
   exact r.mono hle
  ·rw [if_neg q]
   have ok:=R.blk id (Nat.zero_le _)
   rcases F id with e | ⟨c,s,v,f,e,x,e2⟩ | ⟨a,b2,c,e2⟩
   ·rw [e];trivial
   ·rw [e2] at ok ⊢
    obtain ⟨l,cs2,fr2,p1,p2,p3,p4,p5,p6,p7,p8,p9,p10⟩:=ok
    exact ⟨l,cs2,fr2,by rw [hsame id q];exact p1,p2,p3,p4,p5,p6,fun i hi=>let ⟨v,a,r,d⟩:=p7 i hi;⟨v,a,r.mono hle,d⟩,fun v hv=>by rw [hsame id q];exact p8 v hv,p9,p10⟩
   ·rw [e2] at ok ⊢
    obtain ⟨l,el,fr2,p1,p2,p3,p4⟩:=ok
    exact ⟨l,el,fr2,by rw [hsame id q];exact p1,p2,p3,fun v hv=>by rw [hsame id q];exact p4 v hv⟩
 ·intro i j _ _ _ ho
  exfalso
  have:owns (hget i (hset h.next b h.tr))=true:=ho
  rw [hg] at this
  by_cases q:i=h.next
  ·rw [if_pos q,hb] at this;simp [owns] at this
  ·rw [if_neg q,F.no] at this;simp at this
 ·intro id
  show hget id (hset h.next b h.tr)=_∨_
  rw [hg]
  by_cases q:id=h.next
  ·rw [if_pos q,hb];exact .inr (.inl ⟨_,_,_,_,_,_,rfl⟩)
  ·rw [if_neg q]
   rcases F id with e | ⟨c,s,v,f,e,x,e2⟩ | ⟨a,b2,c,e2⟩
   ·exact .inl e
   ·exact .inr (.inl ⟨c,s,v,f,e,x,e2⟩)
   ·exact .inr (.inr ⟨a,b2,c,e2⟩)
 ·refine ⟨.al vs.length fun i=>vs.getD i V.u,?_,Nat.le_refl _,fun j hj=>?_⟩
  ·show hget h.next (hset h.next b h.tr)=_
   rw [hg,if_pos rfl,hb]
  ·show vs.getD j V.u=_
   rw [List.getD_eq_getElem?_getD,List.getElem?_eq_getElem hj];rfl
end Go.Bvm
set_option linter.unusedVariables false
namespace Go.Bvm
open Go.RowKit (Below)
variable {P:Program} {G:Nat→Bool}
def WkC (P:Program) (f:Nat):Prop:=∀ w:World,Lib.TabIs P w "internal/strconv.uint64pow10" .u64 Lib.pow10Tab→Calls P f #[] w fun e w'=>e=.returned (.bool true)∧Below w.heap.size w w'
noncomputable def extWk (g:Nat) (l:V) (h:H) (k:KV):Bool:=onNil l (onPin (hget g h.tr) fun p _ _=>both (Nat.beq p 0) (k (.t true) h))
theorem EntOk.wk {f g:Nat} {gl:Global} (hgl:P.globals[g]?=some gl) (hnm:P.globalNamed "internal/strconv.uint64pow10" = some g) (hG:G g=true) (hlt:0≤g) (hent:∀ (args:Array Value) (w:World),(callFunc f args).run P w=.ok (.enter f args) w) (hC:WkC P f):EntOk P G f (fun _=>extWk g) where
 ok:=fun cf _ _ _ l h k hm φ w args hg hl R=>by
  obtain ⟨_,_,h2,hm3⟩:=onNil_true hm
  rw [h2] at hl
  cases hl
  obtain ⟨p,_,_,e2,hm3⟩:=onPin_true hm3
  obtain ⟨h3,hm4⟩:=both_true hm3
  obtain rfl:=beq_true h3
  obtain ⟨lg,g1,g2,g3,_⟩:=hg g gl hG hgl
  have hblk:=R.blk g hlt
  rw [e2] at hblk
  obtain ⟨l',el,fr,a1,a2,a3,_⟩:=hblk
  rw [g1] at a1
  obtain rfl:=Option.some.inj a1
  rw [g2] at a3
  have htab:Lib.TabIs P w "internal/strconv.uint64pow10" .u64 Lib.pow10Tab:=by
   unfold Lib.TabIs World.var?
   rw [hnm]
   simp only [Option.bind_some,a3]
   rfl
  refine .inr (.inr ⟨f,_,hent _ w,?_⟩)
  refine (hC w htab).mono ?_
  rintro e w' ⟨rfl,hB⟩
  obtain ⟨R',X⟩:=R.belowW hB
  exact ⟨_,rfl,_,h,φ,hm4,.t,R',X⟩
 ret:=fun cf _ l h=>.onNil (.onPin fun p _ _=>.both (.k _))
 frm:=fun cf _ r l h hk=>.onNil (.onPin hk fun p _ _=>.both (c:=fun _=>Nat.beq p 0) (fun _=>rfl) fun _=>.k hk _)
theorem FO.start (L:List (Nat×Nat×Nat×Nat)) (nn:Nat):FO ⟨nn,putM (pinsM L) t6⟩:=fun id=>by
 have hlt':∀ y,y∈pinsM L→0≤y.1:=fun _ _=>Nat.zero_le _
 show hget id (putM (pinsM L) t6)=_∨_
 rcases lookL (pinsM L) id with ⟨b,h1,h2,_⟩ | ⟨_,h2,_⟩
 ·rw [h2 _ hlt' (Nat.zero_le _)]
  obtain ⟨x,_,e⟩:=List.mem_map.1 h1
  cases e
  exact .inr (.inr ⟨_,_,_,rfl⟩)
 ·rw [h2 _ hlt' (Nat.zero_le _),hget_t6]
  exact .inl rfl
theorem Ext.belowF {φ φ':Phi} {h h':H} {w w':World} (F:FO h) (X:Ext φ h w φ' h' w'):Below w.heap.size w w':=by
 have no:∀ B,¬ Own φ h.tr B:=fun B ⟨id,l,_,ho,_⟩=>by rw [F.no] at ho;simp at ho
 exact ⟨X.os,X.tape,X.output,X.size,fun k hk=>X.frame k hk (no k)⟩
theorem law_call_imp {P:Program} (hmix:P.follows .mixedOrders=true) {LF:Nat→List Nat} {OF:Nat→Nat→Option (Nat×List Od)} {lf f nn:Nat} {L:List (Nat×Nat×Nat×Nat)} (hn:Nat.ble 0 nn=true) (hlt:L.all (fun x=>Nat.ble (Nat.succ x.1) nn)=true)
  (hsz:L.all (fun x=>match P.globals[x.1]? with | some q=>Nat.ble (sizeT P q.type) 64 | none=>false)=true) {t:CallF→CallF} (ht:TblOk P (pinG L) t) {T:CallF→Nat→V→H→KV→Bool} (e:FnEq P (pinG L) LF OF f T) (hchk:chkF P LF OF f=true) (n:Nat) {W:World} (hw:PinsAt L W) {l:List Value}
  (hm:∀ φ,Rel φ ⟨nn,putM (pinsM L) t6⟩ W→FO ⟨nn,putM (pinsM L) t6⟩→∃ φ' h' a,Rel φ' h' W∧φ.le φ'∧FO h'∧RL φ' a l∧T (run t n) lf a h' (fun v _=>onT v fun b=>b)=true) :
  Calls P f ⟨l⟩ W fun e W'=>e=.returned (.bool true)∧Below W.heap.size W W':=by
 have hG:∀ x,pinG L x=true→∃ y,y∈L∧y.1=x:=fun x hx=>by
  obtain ⟨y,hy,h⟩:=List.any_eq_true.1 hx
  exact ⟨y,hy,beq_true h⟩
 have R0:Rel (pinPhi (pinSz L)) ⟨nn,putM (pinsM L) t6⟩ W:=Rel.startL (ble_true hn) hw (fun x hx=>by
  have:=ble_true (List.all_eq_true.1 hlt x hx);omega) (fun g s hs=>by
  unfold pinSz at hs
  split at hs
  ·rename_i h;exact hG g h
  ·simp at hs) (fun x hx=>by
  unfold pinSz
  have:pinG L x.1=true:=List.any_eq_true.2 ⟨x,hx,Nat.beq_refl _⟩
  rw [if_pos this]
  rfl)
 obtain ⟨φ',h',a,R',le,F',hv,hm⟩:=hm _ R0 (FO.start L nn)
 rw [← e (run t n) lf] at hm
 obtain ⟨h1,h2,h3⟩:=run_ok ht n
 obtain ⟨_,h⟩:=fnF_ok (φ:=φ') hmix h1 h2 h3 hchk hm (fun x q hx hq=>by
  obtain ⟨y,hy,rfl⟩:=hG x hx
  have:=List.all_eq_true.1 hsz y hy
  rw [hq] at this
  exact ⟨⟨y.1,0,64,64⟩,le _ _ _ (by unfold pinPhi pinSz;rw [if_pos rfl,if_pos hx];rfl),rfl,rfl,ble_true this⟩) hv R'
 refine h.mono ?_
 rintro e w' ⟨c,rfl,v,h'',φ'',hk,rv,R'',X⟩
 obtain ⟨b,rfl,hb⟩:=onT_true hk
 have hb:b=true:=hb
 subst hb
 obtain rfl:=rv.inv_t
 exact ⟨rfl,X.belowF F'⟩
theorem wk_call {P:Program} (hmix:P.follows .mixedOrders=true) {LF:Nat→List Nat} {OF:Nat→Nat→Option (Nat×List Od)} {lf f nn:Nat} {L:List (Nat×Nat×Nat×Nat)} (hn:Nat.ble 0 nn=true) (hlt:L.all (fun x=>Nat.ble (Nat.succ x.1) nn)=true)
  (hsz:L.all (fun x=>match P.globals[x.1]? with | some q=>Nat.ble (sizeT P q.type) 64 | none=>false)=true) {t:CallF→CallF} (ht:TblOk P (pinG L) t) {T:CallF→Nat→V→H→KV→Bool} (e:FnEq P (pinG L) LF OF f T) (hchk:chkF P LF OF f=true) (n:Nat)
  (hm:T (run t n) lf V.nil ⟨nn,putM (pinsM L) t6⟩ (fun v _=>onT v fun b=>b)=true) (hL:∀ w:World,Lib.TabIs P w "internal/strconv.uint64pow10" .u64 Lib.pow10Tab→PinsAt L w):WkC P f:=fun w hw=>
 law_call_imp hmix hn hlt hsz ht e hchk n (hL w hw) (l:=[]) fun φ R F=>⟨φ,_,V.nil,R,φ.le_refl,F,.nil,hm⟩
section
open Go.ChangeShapes Go.WideShapes Go.ChangeAt Go.RowKit
theorem law_lifted_laid3 {H:Type} {enc:TypeId×Value→H} {C:Checked} {os:Os} {f:FuncId} {fn:Func} {s:ChangeSpec} {t tb:TypeId} {conds:List PathCond} {laid:List (String×DataW Unit)}
  (own:ownKnob C.prog.godebug=none) (started:os.Started) (noInit:C.prog.inits.idxOf? f=none) (hfn:C.prog.funcs[f]?=some fn)
  (witness:∃ (w:World) (tape:Tape) (i:Input),w.os=os∧(w.forCall tape i).Shaped C.prog∧i.vars=[]∧Input.okWide C.prog (w.forCall tape i) .any w.heap.size f i∧
   ((s.pre enc C.prog fn conds false (w.forCall tape i).memory i.args∧laidMetH C.prog laid (w.forCall tape i).memory)∧sizedMet enc C.prog fn (OpenSpec.ofChange s) false (w.forCall tape i).memory i.args)∧({ modest:=false }:Assume).holds C.prog (lone (Frame.enter C.prog f i.args .normal) [] (w.forCall tape i)))
  (hp:fn.params=#[t]) (hr:fn.resultTypes=#[tb]) (htb:C.prog.underlying tb=some .bool) (hv:s.vars=[]) (hs:∀ d,s.fn H [d]={ results:=[.lit (.bool true)],args:=[d] })
  (hl:laidOutB C.prog=true) (hrd:C.prog.readableRec t=true) (hrow:t<C.prog.types.size)
  (hcall:∀ (W:World) (base:Nat) (v:Value) (d:DataW H),laidMetH C.prog laid W→Value.okWide C.prog W .any base t v→(∃ fu ps,DataW.trod enc C.prog W 0 (fun _=>true) true fu t v.cells.toList=some (d,ps))→(∀ n∈d.weights C.prog t,n≤reachBytes)→Calls C.prog f #[v] W fun e W'=>e=.returned (.bool true)∧Below W.heap.size W W') :
  ReturnsInHanded { modest:=false } C os f .any (fun w args=>(s.pre enc C.prog fn conds false w args∧laidMetH C.prog laid w)∧sizedMet enc C.prog fn (OpenSpec.ofChange s) false w args) (s.post enc C.prog fn false true false false):=by
 refine returnsInHanded_of_change_and (X:=fun w _=>laidMetH C.prog laid w) (fun _ _ _ hh h=>h.of_heap hh) own started noInit hfn witness ?_
 intro W base args ds gs before hval hW _ hwt hX _
 have hW':=hW
 obtain ⟨p,q,hA,hV,rfl,hfz,hnd⟩:=hW
 rw [hp] at hA hwt
 rw [hv] at hV
 obtain ⟨v,d,rfl,rfl,h0⟩:=trodAll_one hA
 obtain ⟨rfl,rfl⟩:=trodVars_none hV
 have hwt':∀ n∈d.weights C.prog t,n≤reachBytes:=fun n hn=>by
  have:=List.all_eq_true.1 hwt n (by
   show n∈DataW.weightsEach C.prog (t::s.plain.varTypes C.prog) (d::[])
   unfold DataW.weightsEach
   exact List.mem_append_left _ hn)
  exact of_decide_eq_true this
 have h0':=h0
 refine (hcall W base v d hX (hval 0 t v (by rw [hp];rfl) rfl) (let ⟨fu,q⟩:=h0';⟨fu,_,q⟩) hwt').mono fun e W' ⟨he,hb⟩=>?_
 refine ⟨_,he,[d],[],p++[],[],p,[],hW',?_,?_,?_,?_,fun k=>by simp at k⟩
 ·rw [hr]
  show DataW.TrodAll enc C.prog W' W.heap.size (fun _=>false) false [tb] [.bool true] (s.fn H ([d]++[])).results []
  rw [List.append_nil,hs]
  exact trodAll_mk1 (shut_bool htb true)
 ·rw [hp,List.append_nil,hs]
  exact trodAll_mk1 (Below.trod hl hrd hrow h0 hb fun x hx=>by have:=hW'.lt x (by simp [hx]);simpa using this)
 ·rw [hv,List.append_nil,hs]
  exact rfl
 ·exact hb.frame _
end
end Go.Bvm
