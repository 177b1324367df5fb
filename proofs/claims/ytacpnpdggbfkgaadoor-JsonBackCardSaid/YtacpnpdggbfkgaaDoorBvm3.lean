/- The abstract machine: more operations; regions that may run in several orders. Conditions: stated in each theorem. -/
import Derived.Test.YtacpnpdggbfkgaaDoorBvm2
import Derived.Lib.Builder
import Derived.Lib.UnsafeStr
import Derived.Laws.StructEq
import Derived.Laws.RangeString
import Derived.Laws.RangeAny
import Derived.Orders
set_option linter.unusedVariables false
set_option linter.unusedSimpArgs false
set_option linter.unusedVariables false
namespace Go.Bvm
variable {P:Program} {q:Operand→Option V}
theorem isPnil_true {v:V} (h:isPnil v=true):∃ a b,v=.x .pnil a b:=by
 cases v with
 | x g a b=>cases g <;> first | exact Bool.noConfusion (show false=true from h) | exact ⟨_,_,rfl⟩
 | _=>exact Bool.noConfusion (show false=true from h)
theorem RV.inv_pnil {φ:Phi} {a b:V} {c:Value} (r:RV φ (.x .pnil a b) c):c=.pointer none:=by cases r;rfl
theorem shape_of_block {w:World} {B:Nat} {cs:Array Value} {elem:TypeId} {fr:Nat×Nat} (h:w.heap[B]?=some (.cells cs elem fr)):w.shape? B=some (elem,cs.size):=by
 unfold World.shape?;simp [h]
theorem run_conv {o:Oper} {s t:TypeId} {x:Operand} (ho:o.op=.convert s t x) {ρ:Operand→Value} {w:World} {c:Value} (h:(convert s t (ρ x)).run P w=.ok c w):(execOp ρ o).run P w=.ok (.value c) w:=by
 obtain ⟨dst,op',ty,pos,aft,grd⟩:=o
 simp only at ho;subst ho
 exact run_value (convert s t (ρ x)) _ _ _ h
theorem cvU_ok {o:Oper} {s t u:TypeId} {x:Operand} {h:H} {k:V→Bool} (hm:un q x (fun a=>cvU a h k)=true) (ho:o.op=.convert s t x) (hs:P.underlying s=some (.pointer u)) (ht:P.underlying t=some .unsafePointer) (hz:¬ sizeT P u=0) {φ:Phi} {ρ:Operand→Value} {w:World} (r:QR φ q ρ) (R:Rel φ h w) :
  ∃ v c,(execOp ρ o).run P w=.ok (.value c) w∧RV φ v c∧k v=true:=by
 obtain ⟨g,hx,hm⟩:=un_true hm
 have rc:=r _ _ hx
 obtain ⟨j,hj⟩:=sizeT_info hz
 have hjs:j.size≠0:=by
  have:sizeT P u=j.size:=by unfold sizeT;rw [hj]
  rw [← this];exact hz
 unfold cvU at hm
 cases hn:isPnil g with
 | true=>
  rw [hn] at hm
  obtain ⟨a,b,rfl⟩:=isPnil_true hn
  have e:=rc.inv_pnil
  refine ⟨_,_,run_conv ho ?_,rc,hm⟩
  rw [e]
  simp [convert,run_underlying hs,run_underlying ht,Conv.unsafePointer]
 | false=>
  rw [hn,bs_false] at hm
  obtain ⟨id,off,lim,ver,e1,h2⟩:=onP_true hm
  obtain ⟨c,size,bver,frz,elem,ex,own,e2,h3⟩:=onBk_true h2
  obtain ⟨h4,h5⟩:=both_true h3
  obtain ⟨h6,h7⟩:=both_true h5
  obtain rfl:=beq_true h4
  have h6:=ble_true h6
  rw [e1] at rc h7
  obtain ⟨l,e3,hl,e4⟩:=rc.inv_p
  obtain ⟨l',cs,fr,e3',b1,b2,b3,b4,b5,b6,b7,b8,b9⟩:=R.bk e3 e2
  rw [e3] at e3';cases e3'
  refine ⟨_,_,run_conv ho ?_,rc,h7⟩
  rw [e4]
  exact Lib.run_to_unsafe w ⟨l.B,l.base+off,none⟩ hs ht hj hjs (shape_of_block b2) (by dsimp only;omega)
theorem cvP_ok {o:Oper} {s t u:TypeId} {x:Operand} {h:H} {k:V→Bool} (hm:un q x (fun a=>cvP u (sizeT P u) a h k)=true) (ho:o.op=.convert s t x) (hs:P.underlying s=some .unsafePointer) (ht:P.underlying t=some (.pointer u)) (hl:liesAt P P.depth u (sizeT P u / P.cellsOf u) 0 u 1=true) (hz:¬ sizeT P u=0) {φ:Phi} {ρ:Operand→Value} {w:World} (r:QR φ q ρ) (R:Rel φ h w) :
  ∃ v c,(execOp ρ o).run P w=.ok (.value c) w∧RV φ v c∧k v=true:=by
 obtain ⟨g,hx,hm⟩:=un_true hm
 have rc:=r _ _ hx
 obtain ⟨j,hj⟩:=sizeT_info hz
 unfold cvP at hm
 cases hn:isPnil g with
 | true=>
  rw [hn] at hm
  obtain ⟨a,b,rfl⟩:=isPnil_true hn
  have e:=rc.inv_pnil
  refine ⟨_,_,run_conv ho ?_,rc,hm⟩
  rw [e]
  simp [convert,run_underlying hs,run_underlying ht,Conv.unsafePointer]
 | false=>
  rw [hn,bs_false] at hm
  obtain ⟨id,off,lim,ver,e1,h2⟩:=onP_true hm
  obtain ⟨c,size,bver,frz,elem,ex,own,e2,h3⟩:=onBk_true h2
  obtain ⟨h4,h5⟩:=both_true h3
  obtain ⟨h6,h7⟩:=both_true h5
  obtain ⟨h8,h9⟩:=both_true h7
  obtain ⟨h10,h11⟩:=both_true h9
  obtain ⟨h12,h13⟩:=both_true h11
  obtain rfl:=beq_true h4
  obtain rfl:=beq_true h6
  obtain rfl:=beq_true h8
  obtain rfl:=beq_true h12
  rw [e1] at rc h13
  obtain ⟨l,e3,hlim,e4⟩:=rc.inv_p
  obtain ⟨l',cs,fr,e3',b1,b2,b3,b4,b5,b6,b7,b8,b9⟩:=R.bk e3 e2
  rw [e3] at e3';cases e3'
  obtain ⟨b10,b11⟩:=b9 h10
  refine ⟨_,_,run_conv ho ?_,rc,h13⟩
  rw [e4]
  refine Lib.run_from_unsafe w ⟨l.B,l.base+0,none⟩ hs ht hj (shape_of_block b2) ?_
  dsimp only
  rw [b10,← b11]
  exact hl
theorem eqPt_fun {f:Bool→Bool} {op:BinOp} {t e:TypeId} {j:TypeInfo} (hop:op=.eql∧f=idB∨op=.neq∧f=nots) (ht:P.underlying t=some (.pointer e)) (he:P.info? e=some j) (hN:Fun2 P (eqN nilP f) (Go.binOp op t)):Fun2 P (eqPt f) (Go.binOp op t):=by
 intro φ x y k hm c d rx ry w
 unfold eqPt at hm
 cases hb:both (isP x) (isP y) with
 | false=>rw [hb,bs_false] at hm;exact hN φ x y k hm c d rx ry w
 | true=>
  rw [hb,bs_true] at hm
  obtain ⟨i,o,l,v,ex,hm1⟩:=onP_true hm
  obtain ⟨i',o',l',v',ey,hm2⟩:=onP_true hm1
  obtain ⟨h1,hm3⟩:=both_true hm2
  obtain ⟨h2,hm4⟩:=both_true hm3
  obtain ⟨h3,hm5⟩:=both_true hm4
  have h1:=beq_true h1;have h2:=beq_true h2;have h3:=beq_true h3
  rw [ex] at rx;rw [ey,← h1,← h2,← h3] at ry
  obtain ⟨m,m1,_,rfl⟩:=rx.inv_p
  obtain ⟨m',m1',_,rfl⟩:=ry.inv_p
  rw [m1] at m1';cases m1'
  have heq:∀ d:Nat,(Op.equalIn (d+1) t (.pointer (some ⟨m.B,m.base+o,none⟩)) (.pointer (some ⟨m.B,m.base+o,none⟩))).run P w=.ok true w:=fun d=>by
   simp [Op.equalIn,run_underlying ht,sizeOf,typeInfo,he,run_sameAddr_same]
  rcases hop with ⟨rfl,rfl⟩ | ⟨rfl,rfl⟩
  ·refine ⟨_,.bool true,?_,.t,hm5⟩
   simp only [Go.binOp]
   simp [Op.equal,Op.maxDepth,heq 9999]
  ·refine ⟨_,.bool false,?_,.t,hm5⟩
   simp only [Go.binOp]
   simp [Op.equal,Op.maxDepth,heq 9999]
theorem sdata_fun {ts:Array TypeId} {ty:TypeId}:Fun1 P sdata (fun v=>Builtin.unsafeSliceData_ ts ty #[v]):=by
 intro φ x k hm c r w
 unfold sdata at hm
 rcases onSl_true hm with ⟨q1,q2,e,hk⟩ | ⟨id,off,len,ver,es,e,hk⟩
 ·rw [e] at r
  obtain rfl:=r.inv_slnil
  exact ⟨_,_,Lib.run_unsafeSliceData_nil w ts ty 0 0,.pnil,hk⟩
 ·rw [e] at r
  obtain ⟨h1,h2⟩:=both_true hk
  have h1:=ble_true h1
  obtain ⟨l,o,cap,a1,a2,a3,a4,a5,rfl⟩:=r.inv_sl
  have hcap:cap≠0:=by omega
  refine ⟨_,_,Lib.run_unsafeSliceData_row w ts ty _ len cap hcap,?_,h2⟩
  rw [a4 hcap]
  exact .p a1 a2
theorem liesAt_bytes_at {e:TypeId} (hc:P.cellsOf e=1) (count off n:Nat) (hn:off+n≤count):liesAt P P.depth e count off e n=true:=by
 have hd:P.depth=(2*(P.types.size+Made.depth)+1)+1:=rfl
 rw [hd]
 simp only [liesAt,Bool.or_eq_true]
 left
 rw [hd]
 simp [rowAt,hc,hn,sameLayout,Nat.mod_one]
theorem run_unsafeString_at (w:World) (pt it ty e:TypeId) (hp:P.underlying pt=some (.pointer e)) (hc:P.cellsOf e=1) (g o cells:Nat) (hsh:w.shape? g=some (e,cells)) (l:List UInt8) (h0:l≠[]) (hn:o+l.length≤cells) (h63:l.length≤9223372036854775807)
  (hcell:∀ (j:Nat) x,l[j]?=some x→w.cell? ((⟨g,o,none⟩ : Addr).add j)=some (.int .u8 x.toNat)) :
  (Builtin.unsafeString_ #[pt,it] ty #[.pointer (some ⟨g,o,none⟩),.int .i64 l.length]).run P w=.ok (.string ⟨l.toArray⟩) (w.freeze ⟨g,o,none⟩ l.length):=by
 have hl:l.length≠0:=by simpa using h0
 have hlb:=Lib.run_loadBytes (P:=P) w l ⟨g,o,none⟩ .empty hcell
 have hlies:=liesAt_bytes_at (P:=P) hc (cells / P.cellsOf e) o l.length (by rw [hc];simpa using hn)
 have h63':¬ (9223372036854775807:Int)<(l.length:Int):=by omega
 have hdef:Builtin.unsafeString_ #[pt,it] ty #[.pointer (some ⟨g,o,none⟩),.int .i64 l.length] =
   (do
    let n ← asInt (.int .i64 l.length)
    if n<0 then runtimePanic (.error "unsafe.String: len out of range")
    if n>IntKind.i64.max then unsupported (.unsafePointer "String: a length above the largest int")
    if n=0 then pure (.string .empty)
    else if ← variablesAt ⟨g,o,none⟩ (← elemOf pt) n.toNat then do
     let s ← loadBytes ⟨g,o,none⟩ .empty n.toNat
     freeze ⟨g,o,none⟩ n.toNat
     pure (.string s)
    else unsupported (.unsafePointer "String: not so many bytes at ptr")):=rfl
 rw [hdef]
 have hmax:IntKind.i64.max=9223372036854775807:=rfl
 have hneg:¬ (l.length:Int)<0:=by omega
 simp [asInt,asIntOf,hmax,h63',hneg,hl,variablesAt,hsh,elemOf,run_underlying hp,hlies,hlb]
theorem freeze_heap (w:World) (B o n:Nat) {cs:Array Value} {elem:TypeId} {fr:Nat×Nat} (h:w.heap[B]?=some (.cells cs elem fr)):∃ fr',(w.freeze ⟨B,o,none⟩ n).heap[B]?=some (.cells cs elem fr'):=by
 unfold World.freeze
 split
 ·exact ⟨fr,h⟩
 ·obtain ⟨lo,hi⟩:=fr
  simp only [Array.getElem?_modify]
  simp [h]
theorem freeze_other (w:World) (B o n:Nat) {k:Nat} (hk:k≠B):(w.freeze ⟨B,o,none⟩ n).heap[k]?=w.heap[k]?:=by
 unfold World.freeze
 split
 ·rfl
 ·simp only [Array.getElem?_modify]
  rw [if_neg (fun e=>hk e.symm)]
theorem freeze_rest (w:World) (B o n:Nat):(w.freeze ⟨B,o,none⟩ n).heap.size=w.heap.size∧(w.freeze ⟨B,o,none⟩ n).os=w.os∧(w.freeze ⟨B,o,none⟩ n).tape=w.tape∧(w.freeze ⟨B,o,none⟩ n).output=w.output:=by
 unfold World.freeze
 split
 ·exact ⟨rfl,rfl,rfl,rfl⟩
 ·exact ⟨by simp,rfl,rfl,rfl⟩
theorem usS_ok {o:Oper} {ts:Array TypeId} {t u e:TypeId} {x y:Operand} {xs:Array Operand} {h:H} {k:KV} (hm:bi q x y (fun a b=>usS e a b h k)=true) (ho:o.op=.call ⟨.builtin .unsafeString,xs,ts⟩) (hxs:xs.toList=[x,y]) (hts:ts.toList=[t,u])
  (ht:P.underlying t=some (.pointer e)) (he:P.cellsOf e=1) {φ:Phi} {ρ:Operand→Value} {w:World} (r:QR φ q ρ) (R:Rel φ h w):OpRun P (execOp ρ o) w (FPost k φ h w):=by
 obtain ⟨dst,op',ty,pos,aft,grd⟩:=o
 simp only at ho;subst ho
 obtain rfl:=args_two hxs
 obtain rfl:ts=#[t,u]:=by apply Array.ext';rw [hts]
 obtain ⟨g,g',hx,hy,hm⟩:=bi_true hm
 have rx:=r _ _ hx
 have ry:=r _ _ hy
 have hex:∀ c w',(Builtin.unsafeString_ #[t,u] ty #[ρ x,ρ y]).run P w=.ok c w'→(execOp ρ ⟨dst,.call ⟨.builtin .unsafeString,#[x,y],#[t,u]⟩,ty,pos,aft,grd⟩).run P w=.ok (.value c) w':=fun c w' hc=>
  by simp [execOp,resolve,invoke,builtin,hc]
 unfold usS at hm
 obtain ⟨m,e1,hm⟩:=onW_true hm
 rw [e1] at ry
 obtain ⟨hm64,ey⟩:=ry.inv_w
 obtain ⟨h1,hm⟩:=both_true hm
 have h1:bias≤m:=ble_true h1
 have hbias:bias=9223372036854775808:=rfl
 cases hz:Nat.beq m bias with
 | true=>
  rw [hz,bs_true] at hm
  have hz:=beq_true hz
  have ey0:ρ y=.int .i64 0:=by rw [ey,hz];rfl
  have fin:k (.s 0 0) h=true→(∃ p,ρ x=.pointer p)→OpRun P (execOp ρ ⟨dst,.call ⟨.builtin .unsafeString,#[x,y],#[t,u]⟩,ty,pos,aft,grd⟩) w (FPost k φ h w):=fun hk ⟨p,hp⟩=>
   .inl ⟨_,w,hex _ _ (by rw [hp,ey0];exact Lib.run_unsafeString_none w t u ty p),_,h,φ,hk,.s rfl rfl,R,.refl _ _ _⟩
  cases hp:isPnil g with
  | true=>
   rw [hp,bs_true] at hm
   obtain ⟨a,b,hg⟩:=isPnil_true hp
   rw [hg] at rx
   exact fin hm ⟨_,rx.inv_pnil⟩
  | false=>
   rw [hp,bs_false] at hm
   obtain ⟨id,off,lim,ver,e2,h2⟩:=onP_true hm
   rw [e2] at rx
   obtain ⟨l,_,_,e4⟩:=rx.inv_p
   exact fin h2 ⟨_,e4⟩
 | false=>
  rw [hz,bs_false] at hm
  have hz:m≠bias:=fun e=>by rw [e] at hz;simp at hz
  obtain ⟨id,off,lim,ver,e2,h2⟩:=onP_true hm
  obtain ⟨c,size,bver,frz,elem,ex,own,e3,h3⟩:=onBk_true h2
  obtain ⟨hown,h4⟩:=both_true h3
  obtain ⟨h5,h6⟩:=both_true h4
  obtain ⟨h7,h8⟩:=both_true h6
  obtain ⟨h9,h10⟩:=both_true h8
  obtain rfl:=beq_true h5
  obtain ⟨h9e,h9⟩:=both_true h9
  have h9e:=beq_true h9e
  have h7:=ble_true h7;have h9:=ble_true h9
  rw [e2] at rx
  obtain ⟨l,f1,hl,e4⟩:=rx.inv_p
  obtain ⟨l',cs,fr,f1',b1,b2,b3,b4,b5,b6,b7,b8,b9⟩:=R.bk f1 e3
  rw [f1] at f1';cases f1'
  obtain ⟨vs,q1,q2,q3,q4⟩:=cellsAt R f1 e3 off (m-bias) (by omega)
  rw [← q1] at h10
  obtain ⟨bs,a1,a2⟩:=packA_true vs off _ h10 q4
  have hlb:bs.length=m-bias:=by rw [← q1,a1,List.length_map]
  have hid:=R.lt f1
  have hrun:=run_unsafeString_at w t u ty e ht he l.B (l.base+off) cs.size (by rw [← h9e];exact shape_of_block b2) bs (by intro q;rw [q] at hlb;simp at hlb;omega) (by omega) (by omega) (fun j v hj=>by
   rw [add_addr]
   refine q3 j _ ?_
   rw [a1,List.getElem?_map,hj];rfl)
  obtain ⟨fr',g1⟩:=freeze_heap w l.B (l.base+off) bs.length b2
  obtain ⟨g2,g3,g4,g5⟩:=freeze_rest w l.B (l.base+off) bs.length
  have g6:∀ B,B≠l.B→(w.freeze ⟨l.B,l.base+off,none⟩ bs.length).heap[B]?=w.heap[B]?:=fun B hB=>freeze_other w l.B (l.base+off) bs.length hB
  have hb:BlkOk φ (w.freeze ⟨l.B,l.base+off,none⟩ bs.length) id (.bk c size ver frz elem ex false):=
   ⟨l,cs,fr',f1,b1,g1,b3,b4,b5,b6,b7,fun q=>by simp at q,b9⟩
  have hOwn:Own φ h.tr l.B:=⟨id,l,hid,by rw [e3];exact hown,by rw [e3];exact f1,rfl⟩
  have R':=R.put (φ':=φ) (w':=w.freeze ⟨l.B,l.base+off,none⟩ bs.length) (id:=id) (nx:=h.next) (b:=.bk c size ver frz elem ex false) (T:=h.tr) (l:=l) (R.dom _ _ _ f1).1 (Nat.le_refl _) R.next (fun _ _ _=>.inl rfl) φ.le_refl (fun _ _ _ q _=>q)
   (fun v m q=>by rw [g2];exact (R.dom _ _ _ q).2) (by omega) (fun B _ hB=>g6 B hB) hb f1
   (fun j m hj hne hnb hjm=>fun q=>R.apart id j hid hj (Ne.symm hne) (by rw [e3];exact hown) hnb l m (by rw [e3];exact f1) hjm q.symm)
  have X:=Ext.put (h:=h) (φ:=φ) (φ':=φ) (w:=w) (w':=w.freeze ⟨l.B,l.base+off,none⟩ bs.length) (id:=id) (n0:=h.next) (nx:=h.next) (b:=.bk c size ver frz elem ex false) (T:=h.tr) (l:=l) hid (fun _ _ _=>.inl rfl) φ.le_refl (fun _ _ _ q _=>q) (by omega) g3 g4 g5 R.next (Nat.le_refl _) (.inr (by rw [e3];simp)) (fun B _ hB=>g6 B hB) f1 (.inl hOwn)
  refine .inl ⟨.string ⟨bs.toArray⟩,_,hex _ _ ?_,_,_,φ,a2,.s ?_ ?_,R',X⟩
  ·rw [e4,ey,show ((m:Int)-9223372036854775808)=(bs.length:Int) from by rw [hlb];omega]
   exact hrun
  ·rw [size_data];simpa using (hlb.trans q1.symm)
  ·simp
end Go.Bvm
set_option linter.unusedVariables false
namespace Go.Bvm
variable {P:Program} {q:Operand→Option V}
theorem onI_true' {v:V} {k:IntKind→Int→Bool} (h:onI v k=true):∃ q n a b,v=.x (.int q n) a b∧k q n=true:=by
 cases v with
 | x g a b=>cases g <;> first | exact Bool.noConfusion (show false=true from h) | exact ⟨_,_,_,_,rfl,h⟩
 | _=>exact Bool.noConfusion (show false=true from h)
theorem onCons_true {v:V} {k:V→V→Bool} (h:onCons v k=true):∃ a b,v=.x .cons a b∧k a b=true:=by
 cases v <;> first | exact Bool.noConfusion (show false=true from h) | skip
 rename_i g a b
 cases g <;> first | exact Bool.noConfusion (show false=true from h) | skip
 exact ⟨_,_,rfl,h⟩
theorem onNil_true {v:V} {k:Bool} (h:onNil v k=true):∃ a b,v=.x .nil a b∧k=true:=by
 cases v <;> first | exact Bool.noConfusion (show false=true from h) | skip
 rename_i g a b
 cases g <;> first | exact Bool.noConfusion (show false=true from h) | skip
 exact ⟨_,_,rfl,h⟩
theorem RV.inv_agg' {φ:Phi} {a b:V} {c:Value} (h:RV φ (.x .agg a b) c):∃ l:List Value,c=.agg ⟨l⟩∧RL φ a l:=by cases h with | agg r _=>exact ⟨_,rfl,r⟩
theorem run_conv' {o:Oper} {s t:TypeId} {x:Operand} (ho:o.op=.convert s t x) {ρ:Operand→Value} {w w':World} {c:Value} (h:(convert s t (ρ x)).run P w=.ok c w'):(execOp ρ o).run P w=.ok (.value c) w':=by
 obtain ⟨dst,op',ty,pos,aft,grd⟩:=o
 simp only at ho;subst ho
 exact run_value (convert s t (ρ x)) _ _ _ h
theorem eq1_true {φ:Phi} {c:Nat} {x y:V} {k:Bool→Bool} {u v:Value} (h:eq1 c x y k=true) (rx:RV φ x u) (ry:RV φ y v) {t:TypeId} (ht:(c=0∧∃ q,P.underlying t=some (.int q))∨(c=1∧P.underlying t=some .string)∨(c=2∧P.underlying t=some .bool)) (w:World) (d:Nat) :
  ∃ r,(Op.equalIn (d+1) t u v).run P w=.ok r w∧k r=true:=by
 rcases ht with ⟨rfl,q,ht⟩ | ⟨rfl,ht⟩ | ⟨rfl,ht⟩
 ·have h:eqI x y k=true:=h
  unfold eqI at h
  cases hw:isW x with
  | true=>
   rw [hw,bs_true] at h
   obtain ⟨a,e1,h1⟩:=onW_true h
   obtain ⟨b,e2,h2⟩:=onW_true h1
   rw [e1] at rx;rw [e2] at ry
   obtain ⟨_,rfl⟩:=rx.inv_w
   obtain ⟨_,rfl⟩:=ry.inv_w
   refine ⟨_,run_equalIn_int w d t _ _ _ _ ht,?_⟩
   rw [show (((a:Int)-9223372036854775808) == ((b:Int)-9223372036854775808))=Nat.beq a b from by
    rw [Bool.eq_iff_iff];simp;omega]
   exact h2
  | false=>
   rw [hw,bs_false] at h
   cases hy:isY x with
   | true=>
    rw [hy,bs_true] at h
    obtain ⟨a,e1,h1⟩:=onY_true h
    obtain ⟨b,e2,h2⟩:=onY_true h1
    rw [e1] at rx;rw [e2] at ry
    obtain ⟨_,rfl⟩:=rx.inv_y
    obtain ⟨_,rfl⟩:=ry.inv_y
    refine ⟨_,run_equalIn_int w d t _ _ _ _ ht,?_⟩
    rw [show ((a:Int) == (b:Int))=Nat.beq a b from by rw [Bool.eq_iff_iff];simp;omega]
    exact h2
   | false=>
    rw [hy,bs_false] at h
    obtain ⟨q1,n,_,_,e1,h1⟩:=onI_true' h
    obtain ⟨q2,m,_,_,e2,h2⟩:=onI_true' h1
    obtain ⟨h3,h4⟩:=both_true h2
    have h3:=of_decide_eq_true h3
    rw [e1] at rx;rw [e2] at ry
    obtain ⟨_,_,rfl⟩:=rx.inv_int
    obtain ⟨_,_,rfl⟩:=ry.inv_int
    subst h3
    refine ⟨_,run_equalIn_int w d t _ _ _ _ ht,?_⟩
    rw [show (n == m)=decide (n=m) from by rw [Bool.eq_iff_iff];simp]
    exact h4
 ·have h:(onS x fun l n=>onS y fun l' n'=>k (seqB l n l' n'))=true:=h
  obtain ⟨l,n,e1,h1⟩:=onS_true h
  obtain ⟨l',n',e2,h2⟩:=onS_true h1
  rw [e1] at rx;rw [e2] at ry
  obtain ⟨s,rfl,rfl,rfl⟩:=rx.inv_s
  obtain ⟨s',rfl,rfl,rfl⟩:=ry.inv_s
  refine ⟨_,run_equalIn_string w d t _ _ ht,?_⟩
  rw [← seqB_eq];exact h2
 ·have h:(onT x fun a=>onT y fun b=>k (bs a b (nots b)))=true:=h
  obtain ⟨a,e1,h1⟩:=onT_true h
  obtain ⟨b,e2,h2⟩:=onT_true h1
  rw [e1] at rx;rw [e2] at ry
  obtain rfl:=rx.inv_t
  obtain rfl:=ry.inv_t
  refine ⟨_,run_equalIn_bool' w d t _ _ ht,?_⟩
  rw [show (a == b)=bs a b (nots b) from by cases a <;> cases b <;> rfl]
  exact h2
theorem run_part_one {t:TypeId} {d:TypeDesc} (ht:P.underlying t=some d) (hone:oneT P t=true) {cs:Array Value} {off:Nat} {v:Value} (hv:cs[off]?=some v) (w:World):(Go.part t cs off).run P w=.ok v w:=by
 unfold Go.part
 rw [Sem.run_bind,run_isAgg ht,hone]
 simp [hv]
theorem eqLs_true {φ:Phi} (w:World) (d:Nat):∀ (fs:List Field) (i:Nat) (ks:List Nat) (l m:V) (xs ys:List Value) (k:Bool→Bool) (X Y:Array Value),kindsL P fs i=some ks→eqLs ks l m k=true→RL φ l xs→RL φ m ys→
  (∀ (j:Nat) v,xs[j]?=some v→X[i+j]?=some v)→(∀ (j:Nat) v,ys[j]?=some v→Y[i+j]?=some v)→∃ r,(Op.eqFields (d+1) X Y fs).run P w=.ok r w∧k r=true
 | [],i,ks,l,m,xs,ys,k,X,Y,hk,h,_,_,_,_=>by
  simp only [kindsL,Option.some.injEq] at hk
  subst hk
  obtain ⟨_,_,_,h1⟩:=onNil_true (show onNil l (onNil m (k true))=true from h)
  obtain ⟨_,_,_,h2⟩:=onNil_true h1
  exact ⟨true,rfl,h2⟩
 | f::fs,i,ks,l,m,xs,ys,k,X,Y,hk,h,hl,hm,hX,hY=>by
  simp only [kindsL] at hk
  split at hk
  rotate_left
  ·simp at hk
  rename_i hf
  obtain ⟨hoff,hname⟩:=hf
  have key:∀ (c:Nat) (r:List Nat),ks=c::r→kindsL P fs (i+1)=some r→oneT P f.type=true→((c=0∧∃ q,P.underlying f.type=some (.int q))∨(c=1∧P.underlying f.type=some .string)∨(c=2∧P.underlying f.type=some .bool))→
    ∃ r,(Op.eqFields (d+1) X Y (f::fs)).run P w=.ok r w∧k r=true:=by
   intro c r hks hr hone ht
   subst hks
   obtain ⟨a,l',e1,h1⟩:=onCons_true (show onCons l (fun a x'=>onCons m fun b y'=>eq1 c a b fun r1=>eqLs r x' y' fun q=>k (bs r1 q false))=true from h)
   obtain ⟨b,m',e2,h2⟩:=onCons_true h1
   rw [e1] at hl;rw [e2] at hm
   cases hl with
   | cons ha hl'=>
    cases hm with
    | cons hb hm'=>
     rename_i u us v vs
     obtain ⟨r1,g1,g2⟩:=eq1_true (P:=P) h2 ha hb ht w d
     obtain ⟨r2,g3,g4⟩:=eqLs_true w d fs (i+1) r l' m' us vs _ X Y hr g2 hl' hm' (fun j z hz=>by have:=hX (j+1) z (by simpa using hz);rw [show i+1+j=i+(j+1) from by omega];exact this) (fun j z hz=>by have:=hY (j+1) z (by simpa using hz);rw [show i+1+j=i+(j+1) from by omega];exact this)
     have hd:∃ dd,P.underlying f.type=some dd:=by rcases ht with ⟨_,q,z⟩ | ⟨_,z⟩ | ⟨_,z⟩ <;> exact ⟨_,z⟩
     obtain ⟨dd,hd⟩:=hd
     have p1:=run_part_one hd hone (cs:=X) (off:=f.offset) (v:=u) (by have:=hX 0 u rfl;rw [Nat.add_zero] at this;rw [hoff];exact this) w
     have p2:=run_part_one hd hone (cs:=Y) (off:=f.offset) (v:=v) (by have:=hY 0 v rfl;rw [Nat.add_zero] at this;rw [hoff];exact this) w
     unfold Op.eqFields
     rw [if_pos hname,Sem.run_bind,p1]
     simp only [Result.andThen_ok]
     rw [Sem.run_bind,p2]
     simp only [Result.andThen_ok]
     rw [Sem.run_bind,g1]
     simp only [Result.andThen_ok]
     cases r1 with
     | true=>exact ⟨r2,g3,g4⟩
     | false=>exact ⟨false,rfl,g4⟩
  split at hk
  ·rename_i q l' hu hr
   simp only [Option.some.injEq] at hk
   exact key 0 l' hk.symm hr (by unfold oneT;rw [hu]) (.inl ⟨rfl,_,hu⟩)
  ·rename_i l' hu hr
   simp only [Option.some.injEq] at hk
   exact key 1 l' hk.symm hr (by unfold oneT;rw [hu]) (.inr (.inl ⟨rfl,hu⟩))
  ·rename_i l' hu hr
   simp only [Option.some.injEq] at hk
   exact key 2 l' hk.symm hr (by unfold oneT;rw [hu]) (.inr (.inr ⟨rfl,hu⟩))
  ·simp at hk
theorem eqAg_ok {o:Oper} {op:BinOp} {t u:TypeId} {x y:Operand} {ks:List Nat} {f:Bool→Bool} {k:V→Bool} (hk:flatK P t=some ks) (hop:op=.eql∧f=idB∨op=.neq∧f=nots) (h:bi q x y (fun a b=>eqAg ks f a b k)=true) (ho:o.op=.binOp op t x y u):PopS P q o k:=by
 intro φ ρ hh w r R
 obtain ⟨g,g',hx,hy,hm⟩:=bi_true h
 have rx:=r _ _ hx
 have ry:=r _ _ hy
 obtain ⟨l,_,e1,h1⟩:=onAgg_true hm
 obtain ⟨m,_,e2,h2⟩:=onAgg_true h1
 rw [e1] at rx;rw [e2] at ry
 unfold flatK at hk
 split at hk
 rotate_left
 ·simp at hk
 rename_i fs ht
 split at hk
 rotate_left
 ·simp at hk
 rename_i hp
 obtain ⟨xs,ex,hxs⟩:=rx.inv_agg'
 obtain ⟨ys,ey,hys⟩:=ry.inv_agg'
 have hf:P.fieldsOf t=fs:=by unfold Program.fieldsOf;rw [ht]
 obtain ⟨b,g1,g2⟩:=eqLs_true (P:=P) w 9998 fs.toList 0 ks l m xs ys _ ⟨xs⟩ ⟨ys⟩ hk h2 hxs hys (fun j v hj=>by simpa using hj) (fun j v hj=>by simpa using hj)
 have heq:(Op.equalIn 10000 t (.agg ⟨xs⟩) (.agg ⟨ys⟩)).run P w=.ok b w:=by
  rw [show (10000:Nat)=9999+1 from rfl,run_equalIn_agg w 9999 t _ _ (by rw [hf];exact ht) hp.1,hf]
  exact g1
 obtain ⟨dst,op',ty,pos,aft,grd⟩:=o
 simp only at ho;subst ho
 have hrun:∀ c,(Go.binOp op t (ρ x) (ρ y)).run P w=.ok c w→(execOp ρ ⟨dst,.binOp op t x y u,ty,pos,aft,grd⟩).run P w=.ok (.value c) w:=fun c hc=>by
  refine run_value (do eqGuard op t x y (ρ x) (ρ y);Go.binOp op t (ρ x) (ρ y)) _ _ _ ?_
  rw [Sem.run_bind]
  have:(eqGuard op t x y (ρ x) (ρ y)).run P w=.ok () w:=by
   rw [ex,ey];exact run_eqGuard_agg w op t x y _ _ hp.2
  rw [this];exact hc
 rcases hop with ⟨rfl,rfl⟩ | ⟨rfl,rfl⟩
 ·exact ⟨_,.bool b,hrun _ (by rw [ex,ey,run_eql_struct,heq];rfl),.t,g2⟩
 ·refine ⟨_,.bool (!b),hrun _ (by rw [ex,ey,run_neq_struct,heq];rfl),.t,?_⟩
  rw [show (!b)=nots b from by cases b <;> rfl];exact g2
theorem cvS_ok {o:Oper} {s e:TypeId} {x:Operand} {h:H} {k:KV} (hm:un q x (fun a=>cvS a h k)=true) (ho:o.op=.convert s s x) (hs:P.underlying s=some (.slice e)) (he:P.underlying e=some (.int .u8)) {φ:Phi} {ρ:Operand→Value} {w:World} (r:QR φ q ρ) (R:Rel φ h w):OpRun P (execOp ρ o) w (FPost k φ h w):=by
 obtain ⟨g,hx,hm⟩:=un_true hm
 have rx:=r _ _ hx
 unfold cvS at hm
 rcases onSl_true hm with ⟨q1,q2,e1,h2⟩ | ⟨id,off,len,ver,es,e1,h2⟩
 ·simp at h2
 obtain ⟨h3,h4⟩:=both_true h2
 have h3:=ble_true h3
 obtain ⟨c,size,bver,frz,elem,ex,own,e2,h5⟩:=onBk_true h4
 obtain ⟨hown,h6⟩:=both_true h5
 obtain ⟨h7,h8⟩:=both_true h6
 obtain rfl:=beq_true h7
 have rx0:=rx
 rw [e1] at rx
 obtain ⟨l,oo,cap,f1,f2,f3,f4,f5,e3⟩:=rx.inv_sl
 obtain rfl:=f4 (by omega)
 obtain ⟨l',cs,fr,f1',b1,b2,b3,b4,b5,b6,b7,b8,b9⟩:=R.bk f1 e2
 rw [f1] at f1';cases f1'
 have hid:=R.lt f1
 obtain ⟨fr',g1⟩:=freeze_heap w l.B cs.size 1 b2
 obtain ⟨g2,g3,g4,g5⟩:=freeze_rest w l.B cs.size 1
 have g6:∀ B,B≠l.B→(w.freeze ⟨l.B,cs.size,none⟩ 1).heap[B]?=w.heap[B]?:=fun B hB=>freeze_other w l.B cs.size 1 hB
 have hb:BlkOk φ (w.freeze ⟨l.B,cs.size,none⟩ 1) id (.bk c size ver frz elem ex false):=
  ⟨l,cs,fr',f1,b1,g1,b3,b4,b5,b6,b7,fun q=>by simp at q,b9⟩
 have hOwn:Own φ h.tr l.B:=⟨id,l,hid,by rw [e2];exact hown,by rw [e2];exact f1,rfl⟩
 have R':=R.put (φ':=φ) (w':=w.freeze ⟨l.B,cs.size,none⟩ 1) (id:=id) (nx:=h.next) (b:=.bk c size ver frz elem ex false) (T:=h.tr) (l:=l) (R.dom _ _ _ f1).1 (Nat.le_refl _) R.next (fun _ _ _=>.inl rfl) φ.le_refl (fun _ _ _ q _=>q)
  (fun v m q=>by rw [g2];exact (R.dom _ _ _ q).2) (by omega) (fun B _ hB=>g6 B hB) hb f1
  (fun j m hj hne hnb hjm=>fun q=>R.apart id j hid hj (Ne.symm hne) (by rw [e2];exact hown) hnb l m (by rw [e2];exact f1) hjm q.symm)
 have X:=Ext.put (h:=h) (φ:=φ) (φ':=φ) (w:=w) (w':=w.freeze ⟨l.B,cs.size,none⟩ 1) (id:=id) (n0:=h.next) (nx:=h.next) (b:=.bk c size ver frz elem ex false) (T:=h.tr) (l:=l) hid (fun _ _ _=>.inl rfl) φ.le_refl (fun _ _ _ q _=>q) (by omega) g3 g4 g5 R.next (Nat.le_refl _) (.inr (by rw [e2];simp)) (fun B _ hB=>g6 B hB) f1 (.inl hOwn)
 refine .inl ⟨_,_,run_conv' ho ?_,_,_,φ,h8,rx0,R',X⟩
 rw [e3]
 have hsh:=shape_of_block b2
 simp [convert,run_underlying hs,run_underlying he,markStringish,hsh]
end Go.Bvm
set_option linter.unusedVariables false
namespace Go.Bvm
variable {P:Program} {q:Operand→Option V}
theorem onIt_true {b:Blk} {k:Nat→Nat→Nat→Bool} (h:onIt b k=true):∃ l n pos,b=.it l n pos∧k l n pos=true:=by
 cases b <;> first | exact Bool.noConfusion (show false=true from h) | exact ⟨_,_,_,rfl,h⟩
theorem onMp_true {b:Blk} {k:V→Bool} (h:onMp b k=true):∃ kv,b=.mp kv∧k kv=true:=by
 cases b <;> first | exact Bool.noConfusion (show false=true from h) | exact ⟨_,rfl,h⟩
theorem onMap_true {v:V} {kn:Bool} {k:Nat→Bool} (h:onMap v kn k=true):(∃ a b,v=.x .mnil a b∧kn=true)∨∃ id a b,v=.x (.map id) a b∧k id=true:=by
 cases v <;> first | exact Bool.noConfusion (show false=true from h) | skip
 rename_i g a b
 cases g <;> first | exact Bool.noConfusion (show false=true from h) | exact .inl ⟨_,_,rfl,h⟩ | exact .inr ⟨_,_,_,rfl,h⟩
theorem RV.inv_map {φ:Phi} {id:Nat} {a b:V} {c:Value} (h:RV φ (.x (.map id) a b) c):∃ l,φ id 0=some l∧c=.map (some l.B):=by cases h with | map e=>exact ⟨_,e,rfl⟩
theorem RV.inv_mnil {φ:Phi} {a b:V} {c:Value} (h:RV φ (.x .mnil a b) c):c=.map none:=by cases h;rfl
theorem Rel.newO {φ:Phi} {h:H} {w:World} (R:Rel φ h w) {id:Nat} (hid:id<h.next) (hnone:∀ v,φ id v=none) {ob:Obj} {b:Blk} (hv:verOf b=0)
  (hb:∀ φ':Phi,φ.le φ'→φ' id 0=some ⟨w.heap.size,0,0,0⟩→(∀ v,0<v→φ' id v=none)→BlkOk φ' (w.alloc ob) id b) :
  Rel (φ.add id 0 ⟨w.heap.size,0,0,0⟩) ⟨h.next,hset id b h.tr⟩ (w.alloc ob)∧∀ n0,n0≤id→Ext φ ⟨n0,h.tr⟩ w (φ.add id 0 ⟨w.heap.size,0,0,0⟩) ⟨h.next,hset id b h.tr⟩ (w.alloc ob):=by
 have hnx:=R.next
 have hle:=φ.le_add id 0 ⟨w.heap.size,0,0,0⟩ (hnone 0)
 have hold:∀ i v m,φ.add id 0 ⟨w.heap.size,0,0,0⟩ i v=some m→i≠id→φ i v=some m:=fun i v m e k=>by
  rw [Phi.add_other _ _ (fun q=>k q.1)] at e;exact e
 have hl:φ.add id 0 ⟨w.heap.size,0,0,0⟩ id (verOf b)=some ⟨w.heap.size,0,0,0⟩:=by rw [hv];exact Phi.add_same _ _ _ _
 have hB:=hb _ hle (Phi.add_same _ _ _ _) (fun v hv=>by rw [Phi.add_other _ _ (by omega)];exact hnone v)
 have hsz:w.heap.size≤(w.alloc ob).heap.size:=by simp
 have hheap:∀ k,k<w.heap.size→k≠w.heap.size→(w.alloc ob).heap[k]?=w.heap[k]?:=fun k hk _=>push_old _ _ _ hk
 refine ⟨R.put (id:=id) (nx:=h.next) (l:=⟨w.heap.size,0,0,0⟩) hid (Nat.le_refl _) R.next (fun i hi _=>.inl rfl) hle hold ?_ hsz hheap hB hl ?_,fun n0 hn0=>Ext.put (h:=h) (id:=id) (l:=⟨w.heap.size,0,0,0⟩) (by omega) (fun i hi _=>.inl rfl) hle hold hsz rfl rfl rfl (by omega) (by omega) (.inl hn0) hheap hl (.inr (Nat.le_refl _))⟩
 ·intro v m e
  by_cases k:v=0
  ·subst k;rw [Phi.add_same] at e;cases e;exact ⟨by simp,Nat.le_refl _⟩
  ·rw [Phi.add_other _ _ (by omega),hnone] at e;simp at e
 ·intro j m hj hne hnb hm
  have:=(R.dom _ _ _ hm).2.1
  show m.B≠w.heap.size
  omega
theorem itA_ok {o:Oper} {t:TypeId} {x:Operand} {id:Nat} {h:H} {k:KV} (hm:un q x (fun a=>itA id a h k)=true) (ho:o.op=.range t x) (ht:P.underlying t=some .string):AopS P q o id h k:=by
 obtain ⟨dst,op',ty,pos,aft,grd⟩:=o
 simp only at ho;subst ho
 obtain ⟨g,hx,hm⟩:=un_true hm
 intro φ ρ w r R hid hnone
 obtain ⟨l,n,e1,h1⟩:=onS_true hm
 obtain ⟨h0,h1⟩:=both_true h1
 have rx:=r _ _ hx
 rw [e1] at rx
 obtain ⟨s,e2,e3,e4⟩:=rx.inv_s
 obtain ⟨R',X⟩:=R.newO hid hnone (ob:=.stringIter s 0) (b:=.it l n 0) rfl (fun φ' _ a b=>⟨_,s,a,rfl,push_new _ _,e3,by omega,by rw [List.drop_zero];exact e4,b⟩)
 refine ⟨_,_,run_value (Instr.range t (ρ x)) _ _ _ (by rw [e2];exact run_range_string w t s ht),_,_,_,h1,?_,R',X,fun i v hi=>Phi.add_other _ _ (fun z=>hi z.1)⟩
 have:=RV.p (φ:=φ.add id 0 ⟨w.heap.size,0,0,0⟩) (off:=0) (lim:=0) (Phi.add_same _ _ _ _) (Nat.le_refl _)
 exact this
theorem mapA_ok {o:Oper} {t:TypeId} {id:Nat} {h:H} {k:KV} (hm:mapA id h k=true) (ho:o.op=.makeMap t none):AopS P q o id h k:=by
 obtain ⟨dst,op',ty,pos,aft,grd⟩:=o
 simp only at ho;subst ho
 intro φ ρ w r R hid hnone
 obtain ⟨R',X⟩:=R.newO hid hnone (ob:=.map #[] 0) (b:=.mp V.nil) rfl (fun φ' _ a b=>⟨_,_,_,a,rfl,push_new _ _,.nil,b⟩)
 refine ⟨_,_,run_value (Instr.makeMap t none) _ _ _ (by unfold Instr.makeMap;rfl),_,_,_,hm,?_,R',X,fun i v hi=>Phi.add_other _ _ (fun z=>hi z.1)⟩
 have:=RV.map (φ:=φ.add id 0 ⟨w.heap.size,0,0,0⟩) (a:=V.nil) (b:=V.nil) (Phi.add_same φ id 0 ⟨w.heap.size,0,0,0⟩)
 exact this
theorem Rel.setO {φ:Phi} {h:H} {w:World} (R:Rel φ h w) {id:Nat} {l:Loc} (hl:φ id 0=some l) {ob:Obj} {b b':Blk} (h0:hget id h.tr=b) (hv0:verOf b=0) (hown:owns b=true) (hv:verOf b'=0) (hb:BlkOk φ { w with heap:=w.heap.setIfInBounds l.B ob } id b') :
  Rel φ ⟨h.next,hset id b' h.tr⟩ { w with heap:=w.heap.setIfInBounds l.B ob }∧Ext φ h w φ ⟨h.next,hset id b' h.tr⟩ { w with heap:=w.heap.setIfInBounds l.B ob }:=by
 have hid:=R.lt hl
 have hne:b≠.nb:=fun k=>by rw [k] at hown;simp [owns] at hown
 have hheap:∀ B,B≠l.B→({ w with heap:=w.heap.setIfInBounds l.B ob }:World).heap[B]?=w.heap[B]?:=fun B hB=>by
  show (w.heap.setIfInBounds l.B ob)[B]?=_
  rw [Array.getElem?_setIfInBounds_ne (fun e=>hB e.symm)]
 have hOwn:Own φ h.tr l.B:=⟨id,l,hid,by rw [h0];exact hown,by rw [h0,hv0];exact hl,rfl⟩
 have hsz:({ w with heap:=w.heap.setIfInBounds l.B ob }:World).heap.size=w.heap.size:=by simp
 refine ⟨R.put (φ':=φ) (id:=id) (nx:=h.next) (b:=b') (T:=h.tr) (l:=l) (R.dom _ _ _ hl).1 (Nat.le_refl _) R.next (fun _ _ _=>.inl rfl) φ.le_refl (fun _ _ _ q _=>q)
   (fun v m q=>by rw [hsz];exact (R.dom _ _ _ q).2) (by omega) (fun B _ hB=>hheap B hB) hb (by rw [hv];exact hl)
   (fun j m hj hne' hnb hjm=>fun q=>R.apart id j hid hj (Ne.symm hne') (by rw [h0];exact hown) hnb l m (by rw [h0,hv0];exact hl) hjm q.symm),
  Ext.put (h:=h) (φ:=φ) (φ':=φ) (w:=w) (id:=id) (n0:=h.next) (nx:=h.next) (b:=b') (T:=h.tr) (l:=l) hid (fun _ _ _=>.inl rfl) φ.le_refl (fun _ _ _ q _=>q) (by omega) rfl rfl rfl R.next (Nat.le_refl _) (.inr (by rw [h0];exact hne)) (fun B _ hB=>hheap B hB) (by rw [hv];exact hl) (.inl hOwn)⟩
theorem drop_cons {s:ByteArray} {pos:Nat} (h:pos<s.size):s.data.toList.drop pos=(s[pos]'h)::s.data.toList.drop (pos+1):=by
 rw [List.drop_eq_getElem_cons (by simpa using h)]
 rfl
theorem unpk_pack:∀ s:List UInt8,unpk s.length (pack s)=s
 | []=>rfl
 | b::r=>by
  have hb:=b.toNat_lt
  show UInt8.ofNat ((b.toNat+256*pack r) % 256)::unpk r.length ((b.toNat+256*pack r) / 256)=b::r
  rw [show (b.toNat+256*pack r) % 256=b.toNat by omega,show (b.toNat+256*pack r) / 256=pack r by omega,unpk_pack r]
  simp
theorem decH_eq {s:ByteArray} {pos l n:Nat} (h:pos<s.size) (hl:l=s.size-pos) (hn:pack (s.data.toList.drop pos)=n):decH l n=Utf8.decode s pos:=by
 have e:unpk l n=s.data.toList.drop pos:=by
  have:=unpk_pack (s.data.toList.drop pos)
  rw [hn] at this
  have hlen:l=(s.data.toList.drop pos).length:=by
   have e1:s.data.toList.length=s.size:=rfl
   rw [List.length_drop,e1];exact hl
  rw [← hlen] at this
  exact this
 unfold decH
 rw [e]
 have hsz:(⟨(s.data.toList.drop pos).toArray⟩ : ByteArray).size=s.size-pos:=by
  show (s.data.toList.drop pos).toArray.size=_
  rw [List.size_toArray,List.length_drop];rfl
 have hg:∀ k,((⟨(s.data.toList.drop pos).toArray⟩ : ByteArray).get! (0+k))=s.get! (pos+k):=fun k=>by
  show ((s.data.toList.drop pos).toArray)[0+k]! = s.data[pos+k]!
  rw [getElem!_def,getElem!_def,Nat.zero_add,List.getElem?_toArray,List.getElem?_drop,Array.getElem?_toList]
 have hc:∀ k,decide (0+k<s.size-pos)=decide (pos+k<s.size):=fun k=>by simp only [decide_eq_decide];omega
 unfold Utf8.decode
 simp only [hsz,hg,hc]
theorem itN_ok {o:Oper} {x:Operand} {h:H} {k:KV} (hm:un q x (fun a=>itN a h k)=true) (ho:o.op=.next x true) {φ:Phi} {ρ:Operand→Value} {w:World} (r:QR φ q ρ) (R:Rel φ h w):OpRun P (execOp ρ o) w (FPost k φ h w):=by
 obtain ⟨dst,op',ty,ps,aft,grd⟩:=o
 simp only at ho;subst ho
 obtain ⟨g,hx,hm⟩:=un_true hm
 have rx:=r _ _ hx
 obtain ⟨id,off,lim,ver,e1,h1⟩:=onP_true hm
 obtain ⟨h2,h3⟩:=both_true h1
 obtain ⟨h4,h5⟩:=both_true h3
 obtain ⟨l,n,pos,e2,h6⟩:=onIt_true h5
 obtain ⟨h7,h8⟩:=both_true h6
 have h7:=ble_true h7
 obtain rfl:=beq_true h2
 obtain rfl:=beq_true h4
 rw [e1] at rx
 obtain ⟨L,f1,_,f2⟩:=rx.inv_p
 have hB:=R.blk id (R.lt f1)
 rw [e2] at hB
 obtain ⟨L',s,g1,g2,g3,g4,g5,g6,g7⟩:=hB
 rw [f1] at g1;cases g1
 have hρ:ρ x=.pointer (some ⟨L.B,0,none⟩):=by rw [f2,g2]
 cases hle:Nat.ble l pos with
 | true=>
  rw [hle,bs_true] at h8
  have hle:=Nat.le_of_ble_eq_true hle
  refine .inl ⟨.tuple #[.bool false],w,run_value (Instr.next (ρ x) true ty) _ _ _ ?_,_,h,φ,h8,.tup (.cons .t .nil),R,.refl _ _ _⟩
  rw [hρ]
  simp [Instr.next,getObj,Sem.run,g3,show ¬ pos<s.size from by omega]
 | false=>
  rw [hle,bs_false] at h8
  have hlt:pos<s.size:=by
   have:¬ l≤pos:=fun k=>by rw [Nat.ble_eq_true_of_le k] at hle;simp at hle
   omega
  have hdc:=drop_cons hlt
  have g6':=g6
  rw [hdc] at g6
  have hn1:n % 256=(s[pos]'hlt).toNat:=by rw [← g6];simp only [pack];have:=(s[pos]'hlt).toNat_lt;omega
  have hn2:n / 256=pack (s.data.toList.drop (pos+1)):=by rw [← g6];simp only [pack];have:=(s[pos]'hlt).toNat_lt;omega
  have hlB:L.B<w.heap.size:=(R.dom _ _ _ f1).2.1
  cases h9:Nat.ble (n % 256) 127 with
  | true=>
   have h10:=h8
   rw [show Nat.ble (Nat.mod n 256) 127=true from h9,bs_true] at h10
   have h9:n % 256≤127:=ble_true h9
   obtain ⟨R',X⟩:=R.setO f1 (ob:=.stringIter s (pos+1)) (b':=.it l (Nat.div n 256) (Nat.succ pos)) e2 rfl rfl rfl
    ⟨L,s,f1,g2,by show (w.heap.setIfInBounds L.B _)[L.B]?=_;simp [hlB],g4,by show pos+1≤l;omega,by show pack (s.data.toList.drop (pos+1))=n / 256;rw [hn2],g7⟩
   refine .inl ⟨.tuple #[.bool true,.int .i64 (pos:Int),.int .i32 ((s[pos]'hlt).toNat:Int)],_,run_value (Instr.next (ρ x) true ty) _ _ _ ?_,_,_,_,h10,?_,R',X⟩
   ·rw [hρ]
    have hd:=decode_ascii s pos hlt (by omega)
    simp only [Instr.next,getObj,setObj,Sem.run_bind,Sem.run,g3,Result.andThen,hlt,if_true,hd]
    simp [goInt]
   ·refine .tup (.cons .t (.cons (RV.nat (by omega)) (.cons ?_ .nil)))
    show RV φ (mkI .i32 ((n % 256:Nat):Int)) _
    rw [hn1]
    exact .int (by simp) (by simp)
  | false=>
   have h10:=h8
   rw [show Nat.ble (Nat.mod n 256) 127=false from h9,bs_false] at h10
   obtain ⟨h11,h12⟩:=both_true h10
   have hu:decH (Nat.sub l pos) n=Utf8.decode s pos:=decH_eq hlt (by show l-pos=_;omega) g6'
   rw [hu] at h11 h12
   have h11:pos+(Utf8.decode s pos).2≤l:=ble_true h11
   have hpk:pack (s.data.toList.drop (pos+(Utf8.decode s pos).2))=n / 256 ^ (Utf8.decode s pos).2:=by rw [← g6',← List.drop_drop];exact pack_drop _ _
   obtain ⟨R',X⟩:=R.setO f1 (ob:=.stringIter s (pos+(Utf8.decode s pos).2)) (b':=.it l (n / 256 ^ (Utf8.decode s pos).2) (pos+(Utf8.decode s pos).2)) e2 rfl rfl rfl
    ⟨L,s,f1,g2,by show (w.heap.setIfInBounds L.B _)[L.B]?=_;simp [hlB],g4,h11,hpk,g7⟩
   refine .inl ⟨.tuple #[.bool true,.int .i64 (pos:Int),.int .i32 ((Utf8.decode s pos).1:Int)],_,run_value (Instr.next (ρ x) true ty) _ _ _ ?_,_,_,_,h12,?_,R',X⟩
   ·rw [hρ]
    simp only [Instr.next,getObj,setObj,Sem.run_bind,Sem.run,g3,Result.andThen,hlt,if_true]
    simp [goInt]
   ·refine .tup (.cons .t (.cons (RV.nat (by omega)) (.cons ?_ .nil)))
    exact .int (by simp) (by simp)
def findNow' (s:ByteArray) (es:List MapEntry) (i:Nat):Option (Option (Nat×Value)):=Instr.findNow .string (.string s) es i
theorem fndK_true {φ:Phi} {s:ByteArray} {yes:V→Bool} {no:Bool}:∀ {kv:V} {es:List MapEntry},ML φ kv es→fndK s.size (pack s.data.toList) kv yes no=true→∀ i0,
  (∃ i e v,findNow' s es i0=some (some (i,e))∧RV φ v e∧yes v=true)∨findNow' s es i0=some none∧no=true:=by
 intro kv es hM
 induction hM with
 | nil=>intro h i0;exact .inr ⟨rfl,h⟩
 | cons hk hv hr ih=>
  rename_i k v r e es
  intro h i0
  have h:(onCons (.x .cons k v) fun key val=>onS key fun l' n'=>bs (seqB s.size (pack s.data.toList) l' n') (yes val) (fndK s.size (pack s.data.toList) r yes no))=true:=h
  have h:(onS k fun l' n'=>bs (seqB s.size (pack s.data.toList) l' n') (yes v) (fndK s.size (pack s.data.toList) r yes no))=true:=h
  obtain ⟨l',n',e1,h1⟩:=onS_true h
  rw [e1] at hk
  obtain ⟨s',e2,rfl,rfl⟩:=hk.inv_s
  rw [seqB_eq] at h1
  have hfn:findNow' s (e::es) i0=if (s == s')=true then some (some (i0,e.val)) else findNow' s es (i0+1):=by
   have hsn:Instr.sameNow .string (.string s) e.key=some (s == s'):=by rw [e2];rfl
   show (match Instr.sameNow .string (.string s) e.key with
    | some true=>some (some (i0,e.val))
    | some false=>findNow' s es (i0+1)
    | none=>none)=_
   rw [hsn]
   cases (s == s') <;> rfl
  rw [hfn,beq_toListBytes]
  cases hq:(s.toList == s'.toList) with
  | true=>
   rw [hq,bs_true] at h1
   exact .inl ⟨i0,e.val,v,rfl,hv,h1⟩
  | false=>
   rw [hq,bs_false] at h1
   exact ih h1 (i0+1)
theorem ML.app {φ:Phi} {X:V} {ys:List MapEntry} (hX:ML φ X ys):∀ {kv:V} {es:List MapEntry},ML φ kv es→ML φ (vapp kv X) (es++ys):=by
 intro kv es hM
 induction hM with
 | nil=>exact hX
 | cons hk hv _ ih=>exact .cons hk hv ih
theorem run_findKey {kt:TypeId} (hk:P.underlying kt=some .string) {s:ByteArray} {es:List MapEntry} {r:Option (Nat×Value)} (h:findNow' s es 0=some r) (w:World):(Instr.findKey kt (.string s) es).run P w=.ok r w:=by
 unfold Instr.findKey
 rw [Sem.run_bind,run_underlying hk]
 simp only [Result.andThen_ok]
 have h:Instr.findNow .string (.string s) es 0=some r:=h
 rw [h]
 rfl
theorem run_checkKey {kt:TypeId} (hk:P.underlying kt=some .string) (b:Bool) (s:ByteArray) (w:World):(Instr.checkKey b 10000 kt (.string s)).run P w=.ok () w:=by
 show (Instr.checkKey b (9999+1) kt (.string s)).run P w=.ok () w
 unfold Instr.checkKey
 rw [Sem.run_bind,run_underlying hk]
 rfl
theorem mpI_ok {o:Oper} {t kt et:TypeId} {x y z:Operand} {h:H} {k:KV} (hm:un q x (fun a=>bi q y z fun b c=>mpI a b c h k)=true) (ho:o.op=.insert t x y z) (ht:P.underlying t=some (.map kt et)) (hkt:P.underlying kt=some .string) {φ:Phi} {ρ:Operand→Value} {w:World} (r:QR φ q ρ) (R:Rel φ h w):OpRun P (execOp ρ o) w (FPost k φ h w):=by
 obtain ⟨dst,op',ty,ps,aft,grd⟩:=o
 simp only at ho;subst ho
 obtain ⟨g,hx,hm⟩:=un_true hm
 obtain ⟨g',g'',hy,hz,hm⟩:=bi_true hm
 have rx:=r _ _ hx
 have ry:=r _ _ hy
 have rz:=r _ _ hz
 rcases onMap_true hm with ⟨_,_,_,hf⟩ | ⟨id,a,b,e1,h1⟩
 ·simp at hf
 obtain ⟨l,n,e2,h2⟩:=onS_true h1
 obtain ⟨kv,e3,h3⟩:=onMp_true h2
 rw [e1] at rx
 have ry0:=ry
 rw [e2] at ry
 obtain ⟨L,f1,f2⟩:=rx.inv_map
 obtain ⟨s,f3,rfl,rfl⟩:=ry.inv_s
 have hB:=R.blk id (R.lt f1)
 rw [e3] at hB
 obtain ⟨L',es,clock,g1,g2,g3,g4,g5⟩:=hB
 rw [f1] at g1;cases g1
 rcases fndK_true g4 h3 0 with ⟨_,_,_,_,_,hf⟩ | ⟨hfn,hk⟩
 ·simp at hf
 have hlB:L.B<w.heap.size:=(R.dom _ _ _ f1).2.1
 obtain ⟨R',X⟩:=R.setO f1 (ob:=.map (es.push { key:=.string s,val:=ρ z,born:=clock }) (clock+1)) (b':=.mp (vapp kv (.x .cons (.x .cons g' g'') V.nil))) e3 rfl rfl rfl
  ⟨L,es.push { key:=.string s,val:=ρ z,born:=clock },clock+1,f1,g2,by show (w.heap.setIfInBounds L.B _)[L.B]?=_;simp [hlB],by
   rw [Array.toList_push]
   exact ML.app (.cons (by show RV φ g' (Value.string s);rw [← f3];exact ry0) rz .nil) g4,g5⟩
 refine .inr (.inl ⟨_,?_,V.u,_,φ,hk,.undef,R',X⟩)
 show (do Instr.mapUpdate t (ρ x) (ρ y) (ρ z);pure .skip:Sem Next).run P w=_
 rw [Sem.run_bind,f2,f3]
 have:(Instr.mapUpdate t (.map (some L.B)) (.string s) (ρ z)).run P w=.ok () { w with heap:=w.heap.setIfInBounds L.B (.map (es.push { key:=.string s,val:=ρ z,born:=clock }) (clock+1)) }:=by
  unfold Instr.mapUpdate
  rw [Sem.run_bind,run_underlying ht]
  simp only [Result.andThen_ok]
  rw [Sem.run_bind]
  have hg:(getObj L.B).run P w=.ok (.map es clock) w:=by simp only [getObj,Sem.run,g3]
  rw [hg]
  simp only [Result.andThen_ok]
  rw [Sem.run_bind,run_checkKey hkt]
  simp only [Result.andThen_ok]
  rw [Sem.run_bind,run_findKey hkt hfn]
  simp only [Result.andThen_ok]
  simp only [setObj,Sem.run]
  rw [g3]
 rw [this];rfl
theorem mpR_ok {φ:Phi} {ok b:Bool} {v:V} {c:Value} (r:RV φ v c):RV φ (mpR ok v b) (if ok=true then .tuple #[c,.bool b] else c):=by
 cases ok with
 | true=>exact .tup (.cons r (.cons .t .nil))
 | false=>exact r
theorem mpL_ok {o:Oper} {t kt et:TypeId} {x y:Operand} {ok:Bool} {i:TypeInfo} {z:Value} {a:V} {h:H} {k:V→Bool} (hm:bi q x y (fun u v=>mpL ok a u v h k)=true) (ho:o.op=.lookup t x y ok) (ht:P.underlying t=some (.map kt et)) (hkt:P.underlying kt=some .string) (hi:P.info? et=some i) (hz:i.zero=some z) (ha:absV z=some a)
  {φ:Phi} {ρ:Operand→Value} {w:World} (r:QR φ q ρ) (R:Rel φ h w):∃ v c,(execOp ρ o).run P w=.ok (.value c) w∧RV φ v c∧k v=true:=by
 obtain ⟨dst,op',ty,ps,aft,grd⟩:=o
 simp only at ho;subst ho
 obtain ⟨g,g',hx,hy,hm⟩:=bi_true hm
 have rx:=r _ _ hx
 have ry:=r _ _ hy
 obtain ⟨l,n,e1,h1⟩:=onS_true hm
 rw [e1] at ry
 obtain ⟨s,f1,rfl,rfl⟩:=ry.inv_s
 have hzero:(zeroValue et).run P w=.ok z w:=by
  unfold zeroValue
  rw [Sem.run_bind,run_info hi]
  simp only [Result.andThen_ok,hz];rfl
 have hrun:∀ c,(Instr.lookup t (ρ x) (ρ y) ok).run P w=.ok c w→(execOp ρ ⟨dst,.lookup t x y ok,ty,ps,aft,grd⟩).run P w=.ok (.value c) w:=fun c hc=>run_value (Instr.lookup t (ρ x) (ρ y) ok) _ _ _ hc
 have hlook:∀ (es:Array MapEntry) (w0:World) (fst:Sem (Array MapEntry)),fst.run P w=.ok es w→∀ res,findNow' s es.toList 0=some res→
   (do
    let es ← fst
    Instr.checkKey es.isEmpty 10000 kt (.string s)
    let (v,okk) ← match ← Instr.findKey kt (.string s) es.toList with
     | some (_,v)=>pure (v,true)
     | none=>pure (← zeroValue et,false)
    pure (if ok then .tuple #[v,.bool okk] else v):Sem Value).run P w=.ok (match res with | some (_,v)=>(if ok=true then .tuple #[v,.bool true] else v) | none=>(if ok=true then .tuple #[z,.bool false] else z)) w:=by
  intro es _ fst hf res hres
  rw [Sem.run_bind,hf]
  simp only [Result.andThen_ok]
  rw [Sem.run_bind,run_checkKey hkt]
  simp only [Result.andThen_ok]
  rw [Sem.run_bind,run_findKey hkt hres]
  simp only [Result.andThen_ok]
  cases res with
  | none=>
   simp only
   rw [Sem.run_bind]
   rw [hzero];rfl
  | some iv=>rfl
 rcases onMap_true h1 with ⟨_,_,e2,h2⟩ | ⟨id,a',b',e2,h2⟩
 ·rw [e2] at rx
  have f2:=rx.inv_mnil
  refine ⟨_,_,hrun _ ?_,mpR_ok (absV_ok φ z a ha),h2⟩
  rw [f2,f1]
  unfold Instr.lookup
  rw [Sem.run_bind,run_underlying ht]
  simp only [Result.andThen_ok]
  exact hlook #[] w (pure #[]) rfl none rfl
 ·obtain ⟨kv,e3,h3⟩:=onMp_true h2
  rw [e2] at rx
  obtain ⟨L,g1,f2⟩:=rx.inv_map
  have hB:=R.blk id (R.lt g1)
  rw [e3] at hB
  obtain ⟨L',es,clock,g1',g2,g3,g4,g5⟩:=hB
  rw [g1] at g1';cases g1'
  have hg0:(getObj L.B).run P w=.ok (.map es clock) w:=by simp only [getObj,Sem.run,g3]
  rcases fndK_true g4 h3 0 with ⟨i,e,v,hfn,rv,hk⟩ | ⟨hfn,hk⟩
  ·refine ⟨_,_,hrun _ ?_,mpR_ok rv,hk⟩
   rw [f2,f1]
   unfold Instr.lookup
   rw [Sem.run_bind,run_underlying ht]
   simp only [Result.andThen_ok]
   rw [Sem.run_bind,hg0]
   simp only [Result.andThen_ok]
   exact hlook es w (pure es) rfl (some (i,e)) hfn
  ·refine ⟨_,_,hrun _ ?_,mpR_ok (absV_ok φ z a ha),hk⟩
   rw [f2,f1]
   unfold Instr.lookup
   rw [Sem.run_bind,run_underlying ht]
   simp only [Result.andThen_ok]
   rw [Sem.run_bind,hg0]
   simp only [Result.andThen_ok]
   exact hlook es w (pure es) rfl none hfn
end Go.Bvm
set_option linter.unusedVariables false
namespace Go.Bvm
variable {P:Program} {G:Nat→Bool} {N:Fr} {q:Operand→Option V}
theorem Fun2.no (g:Value→Value→Sem Value):Fun2 P no2 g:=fun φ x y k h=>by simp [no2] at h
theorem Fun1.no (g:Value→Sem Value):Fun1 P no1 g:=fun φ x k h=>by simp [no1] at h
theorem eqN_fun {nk:V→(Bool→Bool)→Bool} {isn:Value→Bool} {f:Bool→Bool} {op:BinOp} {t:TypeId} (hop:op=.eql∧f=idB∨op=.neq∧f=nots)
  (hnk:∀ φ v k c,nk v k=true→RV φ v c→k (isn c)=true) (hno:∀ φ v k c,nk v k=true→RV φ v c→(∀ q n,c≠.int q n)∧(∀ s,c≠.string s)∧(∀ q n,c≠.float q n)∧(∀ q n m,c≠.complex q n m))
  (heq:∀ φ x y k k' c d w,nk x k=true→nk y k'=true→RV φ x c→RV φ y d→(isn c || isn d)=true→(Op.equal t c d).run P w=.ok (isn c && isn d) w):Fun2 P (eqN nk f) (Go.binOp op t):=by
 intro φ x y k h c d hc hd w
 have h1:=hnk φ x _ c h hc
 have h2:=hnk φ y _ d h1 hd
 obtain ⟨h3,hk⟩:=both_true h2
 have hor:(isn c || isn d)=true:=by cases e:isn c <;> rw [e] at h3 <;> first | rfl | exact h3
 have hand:both (isn c) (isn d)=(isn c && isn d):=by cases isn c <;> rfl
 rw [hand] at hk
 have he:=heq φ x y _ _ c d w h h1 hc hd hor
 obtain ⟨n1,n2,n3,n4⟩:=hno φ x _ c h hc
 rcases hop with ⟨rfl,rfl⟩ | ⟨rfl,rfl⟩
 ·refine ⟨_,.bool (isn c && isn d),?_,.t,hk⟩
  have e:Go.binOp .eql t c d=(do pure (Value.bool (← Op.equal t c d))):=by
   cases c <;> first | rfl | exact absurd rfl (n1 _ _) | exact absurd rfl (n2 _) | exact absurd rfl (n3 _ _) | exact absurd rfl (n4 _ _ _)
  rw [e,Sem.run_bind,he];rfl
 ·rw [nots_eq] at hk
  refine ⟨_,.bool (!(isn c && isn d)),?_,.t,hk⟩
  have e:Go.binOp .neq t c d=(do pure (Value.bool (!(← Op.equal t c d)))):=by
   cases c <;> first | rfl | exact absurd rfl (n1 _ _) | exact absurd rfl (n2 _) | exact absurd rfl (n3 _ _) | exact absurd rfl (n4 _ _ _)
  rw [e,Sem.run_bind,he];rfl
def isNil:Value→Bool
 | .pointer none=>true
 | .slice none _ _=>true
 | .nilFunc=>true
 | .nilIface=>true
 | .map none=>true
 | _=>false
theorem nilP_true {φ:Phi} {v:V} {k:Bool→Bool} {c:Value} (h:nilP v k=true) (r:RV φ v c):k (isNil c)=true∧∃ a,c=.pointer a:=by
 cases r <;> first | exact ⟨h,_,rfl⟩ | exact Bool.noConfusion (show false=true from h)
theorem nilS_true {φ:Phi} {v:V} {k:Bool→Bool} {c:Value} (h:nilS v k=true) (r:RV φ v c):k (isNil c)=true∧∃ a b d,c=.slice a b d:=by
 cases r <;> first | exact ⟨h,_,_,_,rfl⟩ | exact Bool.noConfusion (show false=true from h)
theorem nilF_true {φ:Phi} {v:V} {k:Bool→Bool} {c:Value} (h:nilF v k=true) (r:RV φ v c):k (isNil c)=true∧(c=.nilFunc∨∃ f a b,c=.func f a b):=by
 cases r <;> first | exact ⟨h,.inl rfl⟩ | exact ⟨h,.inr ⟨_,_,_,rfl⟩⟩ | exact Bool.noConfusion (show false=true from h)
theorem nilI_true {φ:Phi} {v:V} {k:Bool→Bool} {c:Value} (h:nilI v k=true) (r:RV φ v c):k (isNil c)=true∧(c=.nilIface∨∃ t u,c=.iface t u):=by
 cases r <;> first | exact ⟨h,.inl rfl⟩ | exact ⟨h,.inr ⟨_,_,rfl⟩⟩ | exact Bool.noConfusion (show false=true from h)
theorem nilM_true {φ:Phi} {v:V} {k:Bool→Bool} {c:Value} (h:nilM v k=true) (r:RV φ v c):k (isNil c)=true∧∃ a,c=.map a:=by
 cases r <;> first | exact ⟨h,_,rfl⟩ | exact Bool.noConfusion (show false=true from h)
theorem under_of_hasT {t:TypeId} (h:hasT P t=true):∃ i,P.info? t=some i:=let ⟨_,hd⟩:=hasT_under h;under_info hd
theorem eqF_fun (f:Bool→Bool) (op:BinOp) (t:TypeId) (hop:op=.eql∧f=idB∨op=.neq∧f=nots):Fun2 P (eqF P f t) (Go.binOp op t):=by
 unfold eqF
 split
 ·rename_i ht;exact eqT_fun f op t ht hop
 ·rename_i e ht
  split
  rotate_left
  ·exact Fun2.no _
  rename_i he
  obtain ⟨j,hj⟩:=under_of_hasT he
  refine eqPt_fun hop ht hj ?_
  refine eqN_fun (isn:=isNil) hop (fun φ v k c h r=>(nilP_true h r).1) (fun φ v k c h r=>by obtain ⟨_,a,rfl⟩:=nilP_true h r;simp) fun φ x y k k' c d w h h' r r' hor=>?_
  obtain ⟨_,a,rfl⟩:=nilP_true h r
  obtain ⟨_,b,rfl⟩:=nilP_true h' r'
  unfold Op.equal Op.maxDepth
  show (Op.equalIn (9999+1) t _ _).run P w=_
  unfold Op.equalIn
  rw [Sem.run_bind,run_under ht]
  cases a <;> cases b <;> first | rfl | simp [isNil] at hor
 ·rename_i e ht
  refine eqN_fun (isn:=isNil) hop (fun φ v k c h r=>(nilS_true h r).1) (fun φ v k c h r=>by obtain ⟨_,a,b,d,rfl⟩:=nilS_true h r;simp) fun φ x y k k' c d w h h' r r' hor=>?_
  obtain ⟨_,a,_,_,rfl⟩:=nilS_true h r
  obtain ⟨_,b,_,_,rfl⟩:=nilS_true h' r'
  unfold Op.equal Op.maxDepth
  show (Op.equalIn (9999+1) t _ _).run P w=_
  unfold Op.equalIn
  rw [Sem.run_bind,run_under ht]
  cases a <;> cases b <;> first | rfl | simp [isNil] at hor
 ·rename_i e ht
  refine eqN_fun (isn:=isNil) hop (fun φ v k c h r=>(nilI_true h r).1) (fun φ v k c h r=>by obtain ⟨_,rfl | ⟨_,_,rfl⟩⟩:=nilI_true h r <;> simp) fun φ x y k k' c d w h h' r r' hor=>?_
  unfold Op.equal Op.maxDepth
  show (Op.equalIn (9999+1) t _ _).run P w=_
  unfold Op.equalIn
  rw [Sem.run_bind,run_under ht]
  obtain ⟨_,rfl | ⟨_,_,rfl⟩⟩:=nilI_true h r <;> obtain ⟨_,rfl | ⟨_,_,rfl⟩⟩:=nilI_true h' r' <;> first | rfl | simp [isNil] at hor
 ·rename_i e1 e2 ht
  refine eqN_fun (isn:=isNil) hop (fun φ v k c h r=>(nilM_true h r).1) (fun φ v k c h r=>by obtain ⟨_,a,rfl⟩:=nilM_true h r;simp) fun φ x y k k' c d w h h' r r' hor=>?_
  obtain ⟨_,a,rfl⟩:=nilM_true h r
  obtain ⟨_,b,rfl⟩:=nilM_true h' r'
  unfold Op.equal Op.maxDepth
  show (Op.equalIn (9999+1) t _ _).run P w=_
  unfold Op.equalIn
  rw [Sem.run_bind,run_under ht]
  cases a <;> cases b <;> first | rfl | simp [isNil] at hor
 ·rename_i e1 e2 e3 ht
  refine eqN_fun (isn:=isNil) hop (fun φ v k c h r=>(nilF_true h r).1) (fun φ v k c h r=>by obtain ⟨_,rfl | ⟨_,_,_,rfl⟩⟩:=nilF_true h r <;> simp) fun φ x y k k' c d w h h' r r' hor=>?_
  unfold Op.equal Op.maxDepth
  show (Op.equalIn (9999+1) t _ _).run P w=_
  unfold Op.equalIn
  rw [Sem.run_bind,run_under ht]
  obtain ⟨_,rfl | ⟨_,_,_,rfl⟩⟩:=nilF_true h r <;> obtain ⟨_,rfl | ⟨_,_,_,rfl⟩⟩:=nilF_true h' r' <;> first | rfl | simp [isNil] at hor
 ·exact Fun2.no _
theorem byK_fun {t:TypeId} {w y z s:F2} {g:Value→Value→Sem Value} (hw:Fun2 P w g) (hy:Fun2 P y g) (hz:Fun2 P z g) (hs:Fun2 P s g):Fun2 P (byK P t w y z s) g:=by
 unfold byK
 split
 ·exact hw
 ·exact hy
 ·exact hz
 ·exact hs
 ·exact Fun2.no _
theorem binF_fun (op:BinOp) (t:TypeId):Fun2 P (binF P op t) (Go.binOp op t):=by
 unfold binF
 split
 ·exact byK_fun (addW_fun P t) (addY_fun P t) (add_fun P t) (cat_fun P t)
 ·exact byK_fun (subW_fun P t) (subY_fun P t) (sub_fun P t) (Fun2.no _)
 ·exact byK_fun (mul_fun P t) (mul_fun P t) (mul_fun P t) (Fun2.no _)
 ·exact byK_fun (quo_fun P t) (quo_fun P t) (quo_fun P t) (Fun2.no _)
 ·exact byK_fun (rem_fun P t) (rem_fun P t) (rem_fun P t) (Fun2.no _)
 ·exact byK_fun (lssW_fun P t) (lssY_fun P t) (lss_fun P t) (lss_fun P t)
 ·exact byK_fun (leqW_fun P t) (leqY_fun P t) (leq_fun P t) (leq_fun P t)
 ·exact byK_fun (gtrW_fun P t) (gtrY_fun P t) (gtr_fun P t) (gtr_fun P t)
 ·exact byK_fun (geq_fun P t) (geqY_fun P t) (geq_fun P t) (geq_fun P t)
 ·split
  ·exact eqlW_fun P t
  ·exact eqlY_fun P t
  ·exact eql_fun P t
  ·exact eqlS_fun P t
  ·exact eqF_fun _ _ t (.inl ⟨rfl,rfl⟩)
 ·split
  ·exact neqW_fun P t
  ·exact neqY_fun P t
  ·exact neq_fun P t
  ·exact neqS_fun P t
  ·exact eqF_fun _ _ t (.inr ⟨rfl,rfl⟩)
 ·exact shr_fun P t
 ·exact Fun2.no _
theorem eqF_no {f:Bool→Bool} {t:TypeId} {φ:Phi} {x y:V} {k:V→Bool} {c:Value} (h:eqF P f t x y k=true) (hc:RV φ x c):(∀ l,c≠.agg l)∧(c≠.nilIface∨∃ ms,P.underlying t=some (.interface ms)):=by
 generalize hF:eqF P f t=F at h
 unfold eqF at hF
 split at hF <;> subst hF
 ·obtain ⟨b,rfl,_⟩:=onT_true h
  obtain rfl:=hc.inv_t;simp
 ·split at h
  ·unfold eqPt at h
   cases hb:both (isP x) (isP y) with
   | true=>
    rw [hb,bs_true] at h
    obtain ⟨i,o,l,v,ex,_⟩:=onP_true h
    rw [ex] at hc
    obtain ⟨m,_,_,rfl⟩:=hc.inv_p;simp
   | false=>
    rw [hb,bs_false] at h
    obtain ⟨_,a,rfl⟩:=nilP_true h hc;simp
  ·simp [no2] at h
 ·obtain ⟨_,a,b,d,rfl⟩:=nilS_true h hc;simp
 ·rename_i ms ht
  exact ⟨by obtain ⟨_,rfl | ⟨_,_,rfl⟩⟩:=nilI_true h hc <;> simp,.inr ⟨_,ht⟩⟩
 ·obtain ⟨_,a,rfl⟩:=nilM_true h hc;simp
 ·obtain ⟨_,rfl | ⟨_,_,_,rfl⟩⟩:=nilF_true h hc <;> simp
 ·simp [no2] at h
theorem binF_no {op:BinOp} {t:TypeId} {φ:Phi} {x y:V} {k:V→Bool} {c:Value} (hop:op=.eql∨op=.neq) (h:binF P op t x y k=true) (hc:RV φ x c):(∀ l,c≠.agg l)∧(c≠.nilIface∨∃ ms,P.underlying t=some (.interface ms)):=by
 rcases hop with rfl | rfl
 all_goals
  generalize hF:binF P _ t=F at h
  simp only [binF] at hF
  split at hF <;> subst hF
  ·obtain ⟨n,rfl,_⟩:=onW_true h
   obtain ⟨_,rfl⟩:=hc.inv_w;simp
  ·obtain ⟨n,rfl,_⟩:=onY_true h
   obtain ⟨_,rfl⟩:=hc.inv_y;simp
  ·have:=cmp_noagg h c hc
   exact ⟨this.2,.inl this.1⟩
  ·obtain ⟨l,n,rfl,_⟩:=onS_true h
   obtain ⟨_,rfl,_⟩:=hc.inv_s;simp
  ·exact eqF_no h hc
theorem isNilC_true {x:Operand} (h:isNilC x=true):x=.const .nilIface:=by
 unfold isNilC at h
 split at h
 ·rfl
 ·simp at h
theorem binO_ok {o:Oper} {op:BinOp} {t u:TypeId} {x y:Operand} {k:V→Bool} (h:bi q x y (fun a b=>binF P op t a b k)=true) (hok:okEq P op t x y=true) (ho:o.op=.binOp op t x y u):PopS P q o k:=by
 intro φ ρ hh w r R
 obtain ⟨g,g',hx,hy,hk⟩:=bi_true h
 obtain ⟨v,c,h1,h2,h3⟩:=binF_fun op t φ _ _ _ hk _ _ (r _ _ hx) (r _ _ hy) w
 refine ⟨v,c,binop_exec op t x y u o ho ρ w c ?_ h1,h2,h3⟩
 by_cases hop:op=.eql∨op=.neq
 ·right
  obtain ⟨n1,n2⟩:=binF_no hop hk (r _ _ hx)
  refine ⟨?_,n1⟩
  rcases n2 with n2 | ⟨ms,ht⟩
  ·exact .inl n2
  ·have hb:(isNilC x || isNilC y)=true:=by
    rcases hop with rfl | rfl <;> (unfold okEq at hok;rw [ht] at hok;exact hok)
   rcases Bool.or_eq_true _ _ ▸ hb with e | e
   ·exact .inr (.inr (.inl (isNilC_true e)))
   ·exact .inr (.inr (.inr (isNilC_true e)))
 ·left
  exact ⟨fun e=>hop (.inl e),fun e=>hop (.inr e)⟩
theorem convF_fun (src dst:TypeId):Fun1 P (convF P src dst) (fun v=>convert src dst v):=by
 unfold convF
 split
 ·rename_i h1 h2
  split
  ·rename_i h;subst h;exact toW_fun h1 h2
  ·rename_i n1
   split
   ·rename_i h;subst h;exact toY_fun h1 h2
   ·rename_i n2;exact toI_fun n1 n2 h1 h2
 ·rename_i h1 h2
  intro φ v k h c hc w
  obtain ⟨l,n,rfl,hk⟩:=onS_true h
  obtain ⟨s,rfl,rfl,rfl⟩:=hc.inv_s
  exact ⟨_,_,str_fun h1 h2 s w,.s rfl rfl,hk⟩
 ·exact Fun1.no _
theorem lenO_ok {o:Oper} {ts:Array TypeId} {x:Operand} {xs:Array Operand} {f:V→(V→Bool)→Bool} {k:V→Bool} (h:un q x (fun a=>f a k)=true) (ho:o.op=.call ⟨.builtin .len,xs,ts⟩) (hxs:xs.toList=[x]) (hf:Fun1 P f (fun v=>Builtin.len_ ts o.type #[v])):PopS P q o k:=by
 obtain ⟨dst',op',ty,pos,aft,grd⟩:=o
 simp only at ho;subst ho
 obtain rfl:=args_one hxs
 refine PopS.fun1 h hf fun ρ=>?_
 simp [execOp,resolve]
 rfl
theorem sdO_ok {o:Oper} {ts:Array TypeId} {x:Operand} {xs:Array Operand} {k:V→Bool} (h:un q x (fun a=>sdata a k)=true) (ho:o.op=.call ⟨.builtin .unsafeSliceData,xs,ts⟩) (hxs:xs.toList=[x]):PopS P q o k:=by
 obtain ⟨dst',op',ty,pos,aft,grd⟩:=o
 simp only at ho;subst ho
 obtain rfl:=args_one hxs
 refine PopS.fun1 h (sdata_fun (ts:=ts) (ty:=ty)) fun ρ=>?_
 simp [execOp,resolve]
 rfl
theorem capO_ok {o:Oper} {ts:Array TypeId} {t e:TypeId} {x:Operand} {xs:Array Operand} {k:V→Bool} (h:un q x (fun a=>capL a k)=true) (ho:o.op=.call ⟨.builtin .cap,xs,ts⟩) (hxs:xs.toList=[x]) (hts:ts[0]?=some t) (ht:P.underlying t=some (.slice e)):PopS P q o k:=by
 obtain ⟨dst',op',ty,pos,aft,grd⟩:=o
 simp only at ho;subst ho
 obtain rfl:=args_one hxs
 refine PopS.fun1 (F:=fun v=>Builtin.cap_ ts ty #[v]) h (fun φ x k h c hc w=>?_) fun ρ=>?_
 ·obtain ⟨v,r,e1,e2,e3⟩:=capL_fun (ty:=ty) ht φ x k h c hc w
  refine ⟨v,r,?_,e2,e3⟩
  have:(Builtin.cap_ ts ty #[c]).run P w=(Builtin.cap_ #[t] ty #[c]).run P w:=by
   unfold Builtin.cap_;rw [hts];rfl
  exact this.trans e1
 ·simp [execOp,resolve]
  rfl
theorem copO_ok {o:Oper} {ts:Array TypeId} {t t' u e:TypeId} {x y:Operand} {xs:Array Operand} {k:V→Bool} (h:bi q x y (fun a b=>copL a b k)=true) (ho:o.op=.call ⟨.builtin .copy,xs,ts⟩) (hxs:xs.toList=[x,y]) (hts:ts[0]?=some t) (hts2:ts.toList=[t',u]) (ht:P.underlying t=some (.slice e)) (hs:(P.info? e).map (·.size)=some 1):PopS P q o k:=by
 obtain ⟨dst',op',ty,pos,aft,grd⟩:=o
 simp only at ho;subst ho
 obtain rfl:=args_two hxs
 obtain rfl:ts=#[t',u]:=by apply Array.ext';rw [hts2]
 obtain rfl:t'=t:=by simpa using hts
 refine PopS.fun2 h (copL_fun (ty:=ty) (u:=u) ht hs) fun ρ w c hr=>?_
 simp [execOp,resolve]
 exact run_value (Builtin.copy_ #[t',u] ty #[ρ x,ρ y]) _ _ _ hr
theorem pop_ok (o:Oper) {k:V→Bool} (h:pop P q o.op k=true):PopS P q o k:=by
 unfold pop at h
 split at h
 ·rename_i ho;exact mov_ok h (.inl ho)
 ·rename_i ho;exact mov_ok h (.inr ho)
 ·rename_i ho;exact pick_ok h ho
 ·rename_i ho;exact nilck_ok h ho
 ·rename_i ho
  split at h
  ·rename_i ks hk
   split at h
   ·exact eqAg_ok hk (.inl ⟨rfl,rfl⟩) h ho
   ·exact eqAg_ok hk (.inr ⟨rfl,rfl⟩) h ho
   ·simp at h
  ·split at h
   ·rename_i hok;exact binO_ok h hok ho
   ·simp at h
 ·rename_i ho
  exact PopS.fun1 h (not_fun P) fun ρ=>by
   obtain ⟨dst',op',ty,pos,aft,grd⟩:=o
   simp only at ho;subst ho;rfl
 ·rename_i ho
  exact PopS.fun1 h (neg_fun P) fun ρ=>by
   obtain ⟨dst',op',ty,pos,aft,grd⟩:=o
   simp only at ho;subst ho;rfl
 ·rename_i s t x ho
  exact PopS.fun1 (F:=fun v=>convert s t v) h (convF_fun s t) fun ρ=>by
   obtain ⟨dst',op',ty,pos,aft,grd⟩:=o
   simp only at ho;subst ho;rfl
 ·rename_i ho
  split at h
  ·rename_i ht
   split at h
   ·rename_i he
    obtain ⟨i,hi⟩:=under_of_hasT he
    exact sarr_ok h ho ht hi
   ·simp at h
  ·rename_i ht;exact sstr_ok h ho ht
  ·rename_i ht
   split at h
   ·rename_i he
    obtain ⟨i,hi⟩:=under_of_hasT he
    exact ssli_ok h ho ht hi
   ·simp at h
  ·simp at h
 ·rename_i ho
  split at h
  ·rename_i hs
   split at h
   ·rename_i hf
    split at h
    ·simp at h
    ·rename_i hq;exact fad_ok h ho hs hf hq
   ·simp at h
  ·simp at h
 ·rename_i t x i ho
  have key:∀ f,Fun2 P f (fun a b=>Instr.indexAt t a b)→bi q x i (fun a b=>f a b k)=true→PopS P q o k:=fun f hf hm=>PopS.fun2 hm hf fun ρ w c hr=>by
   obtain ⟨dst',op',ty,pos,aft,grd⟩:=o
   simp only at ho;subst ho
   exact run_value (Instr.indexAt t (ρ x) (ρ i)) _ _ _ hr
  split at h
  ·rename_i ht
   split at h
   ·rename_i he
    obtain ⟨i,hi⟩:=under_of_hasT he
    exact key _ (iad_fun ht hi) h
   ·simp at h
  ·rename_i ht
   split at h
   ·rename_i he
    obtain ⟨i,hi⟩:=under_of_hasT he
    exact key _ (iaa_fun ht hi) h
   ·simp at h
  ·simp at h
 ·rename_i t x i ho
  split at h
  ·rename_i ht
   exact PopS.fun2 h (sidx_fun P t ht) fun ρ w c hr=>by
    obtain ⟨dst',op',ty,pos,aft,grd⟩:=o
    simp only at ho;subst ho
    exact run_value (Instr.index t (ρ x) (ρ i)) _ _ _ hr
  ·simp at h
 ·rename_i t x f ho
  split at h
  ·rename_i ht
   split at h
   ·rename_i hf
    split at h
    ·rename_i hq
     exact PopS.fun1 h (field_fun ht hf hq) fun ρ=>by
      obtain ⟨dst',op',ty,pos,aft,grd⟩:=o
      simp only at ho;subst ho;rfl
    ·simp at h
   ·simp at h
  ·simp at h
 ·rename_i ho
  split at h
  ·rename_i ht hi
   split at h
   ·rename_i hz
    split at h
    ·rename_i hall
     split at h
     ·rename_i hv
      exact build_ok h ho ht hi hz hv fun f hf=>under_of_hasT (List.all_eq_true.1 hall f hf)
     ·simp at h
    ·simp at h
   ·simp at h
  ·simp at h
 ·rename_i ho
  split at h
  ·rename_i hl hm;exact mkf_ok h ho hl hm
  ·simp at h
 ·rename_i ho
  split at h
  ·simp at h
  ·rename_i hn ht;exact mki_ok h ho ht fun m e=>hn m e
  ·simp at h
 ·rename_i x i ho
  exact PopS.fun1 (F:=fun v=>Instr.extract v i) h (ext_fun i) fun ρ=>by
   obtain ⟨dst',op',ty,pos,aft,grd⟩:=o
   simp only at ho;subst ho;rfl
 ·rename_i ho
  split at h
  ·rename_i hxs hts
   split at h
   ·rename_i ht;exact lenO_ok h ho hxs (lenS_fun hts ht)
   ·rename_i ht;exact lenO_ok h ho hxs (lenL_fun hts ht)
   ·simp at h
  ·rename_i hxs;exact sdO_ok h ho hxs
  ·rename_i hxs hts
   split at h
   ·rename_i ht;exact capO_ok h ho hxs hts ht
   ·simp at h
  ·rename_i hxs hts
   split at h
   ·rename_i ht hts2
    split at h
    ·rename_i he;exact copO_ok h ho hxs hts hts2 ht he
    ·simp at h
   ·simp at h
  ·rename_i hxs;exact mm_ok h ho hxs max_fun (.inl ⟨rfl,rfl⟩)
  ·rename_i hxs;exact mm_ok h ho hxs min_fun (.inr ⟨rfl,rfl⟩)
  ·simp at h
 ·simp at h
theorem lop_ok (o:Oper) {h:H} {k:V→Bool} (hm:lop P q o.op h k=true) {φ:Phi} {ρ:Operand→Value} {w:World} (r:QR φ q ρ) (R:Rel φ h w):∃ v c,(execOp ρ o).run P w=.ok (.value c) w∧RV φ v c∧k v=true:=by
 unfold lop at hm
 split at hm
 ·rename_i ho
  split at hm
  ·rename_i ht;exact ld_ok hm ho ht r R
  ·simp at hm
 ·rename_i ho
  split at hm
  ·rename_i h1 h2
   split at hm
   ·rename_i h3;exact b2s_ok hm ho h1 h2 h3 r R
   ·simp at hm
  ·rename_i h1 h2
   split at hm
   ·simp at hm
   ·rename_i hz;exact cvU_ok hm ho h1 h2 hz r R
  ·rename_i h1 h2
   split at hm
   ·rename_i hl
    split at hm
    ·simp at hm
    ·rename_i hz;exact cvP_ok hm ho h1 h2 hl hz r R
   ·simp at hm
  ·simp at hm
 ·rename_i ho
  split at hm
  ·rename_i ht
   split at hm
   ·rename_i hkt hi
    split at hm
    ·rename_i hz
     split at hm
     ·rename_i ha;exact mpL_ok hm ho ht hkt hi hz ha r R
     ·simp at hm
    ·simp at hm
   ·simp at hm
  ·simp at hm
 ·simp at hm
theorem aop_ok (o:Oper) {id:Nat} {h:H} {k:KV} (hm:aop P q o.op id h k=true):AopS P q o id h k:=by
 unfold aop at hm
 split at hm
 ·rename_i ho
  split at hm
  ·exact box_ok hm ho
  ·simp at hm
 ·rename_i ho
  split at hm
  ·split at hm
   ·rename_i hi
    split at hm
    ·rename_i hz
     split at hm
     ·rename_i hv;exact alloc_ok hm hi hz hv ho
     ·simp at hm
    ·simp at hm
   ·simp at hm
  ·simp at hm
 ·rename_i ho
  split at hm
  ·rename_i h1 h2
   split at hm
   ·rename_i h3;exact s2b_ok hm ho h1 h2 h3
   ·simp at hm
  ·simp at hm
 ·rename_i ho
  split at hm
  ·rename_i ht
   split at hm
   ·rename_i hi
    split at hm
    ·rename_i hz
     split at hm
     ·rename_i hc
      obtain ⟨c1,c2,c3,c4⟩:=hc
      split at hm
      ·rename_i hv
       exact bsl_ok hm ho ht hi hz hv c3 (by omega)
      ·simp at hm
     ·simp at hm
    ·simp at hm
   ·simp at hm
  ·simp at hm
 ·rename_i ho
  split at hm
  ·rename_i ht;exact itA_ok hm ho ht
  ·simp at hm
 ·rename_i ho;exact mapA_ok hm ho
 ·rename_i ho
  split at hm
  ·rename_i ht
   split at hm
   ·rename_i hi
    split at hm
    ·rename_i hz
     split at hm
     ·rename_i hv
      split at hm
      ·rename_i hc
       exact mksl_ok hm ho ht hi hz hv hc.1 hc.2.1 hc.2.2
      ·simp at hm
     ·simp at hm
    ·simp at hm
   ·simp at hm
  ·simp at hm
 ·simp at hm
theorem fop_ok {cf:CallF} (hcf:CallS P G cf) (o:Oper) {h:H} {k:KV} (hm:fop P cf q o.op h k=true) {φ:Phi} {ρ:Operand→Value} {w:World} (hg:GlobOk P G φ) (hρ:∀ f,ρ (.func f)=.func (.func f) #[] #[]) (r:QR φ q ρ) (R:Rel φ h w):OpRun P (execOp ρ o) w (FPost k φ h w):=by
 unfold fop at hm
 split at hm
 ·rename_i ho
  split at hm
  ·rename_i ht;exact st_ok hm ho ht r R
  ·simp at hm
 ·rename_i ho
  split at hm
  ·rename_i hl;exact call_ok hcf hm hl ho hg (hρ _) r R
  ·simp at hm
 ·rename_i ho
  split at hm
  ·rename_i hl
   obtain ⟨g,hx,hm⟩:=un_true hm
   exact callv_ok hcf hm hx hl ho hg r R
  ·simp at hm
 ·rename_i ho
  split at hm
  ·rename_i hxs
   unfold appOp at hm
   split at hm
   ·rename_i hts
    split at hm
    ·rename_i ht htu
     split at hm
     ·rename_i hu hi
      split at hm
      ·rename_i hby
       split at hm
       ·rename_i hz
        split at hm
        ·rename_i hzs;exact app_ok hm ho hxs hts htu ht hu (.inl rfl) hi hz hzs hby r R
        ·simp at hm
       ·simp at hm
      ·simp at hm
     ·rename_i hu hi
      split at hm
      ·rename_i hby
       split at hm
       ·rename_i hz
        split at hm
        ·rename_i hzs;exact app_ok hm ho hxs hts htu ht hu (.inr ⟨_,rfl⟩) hi hz hzs hby r R
        ·simp at hm
       ·simp at hm
      ·simp at hm
     ·simp at hm
    ·simp at hm
   ·simp at hm
  ·simp at hm
 ·rename_i ho
  obtain ⟨g,hx,hm2⟩:=un_true hm
  exact itN_ok hm ho r R
 ·rename_i ho
  split at hm
  ·rename_i ht
   split at hm
   ·rename_i hkt;exact mpI_ok hm ho ht hkt r R
   ·simp at hm
  ·simp at hm
 ·rename_i ho
  split at hm
  ·rename_i h1 h2
   split at hm
   ·rename_i hst
    split at hm
    ·rename_i he
     obtain ⟨rfl,rfl⟩:=hst
     exact cvS_ok hm ho h1 he r R
    ·simp at hm
   ·simp at hm
  ·simp at hm
 ·rename_i ho
  split at hm
  ·rename_i hxs hts
   split at hm
   ·rename_i ht
    split at hm
    ·rename_i he;exact usS_ok hm ho hxs hts ht he r R
    ·simp at hm
   ·simp at hm
  ·simp at hm
 ·simp at hm
theorem Rel.resv {φ:Phi} {h:H} {w:World} (R:Rel φ h w) {n:Nat} (hn:0≤h.next+n):Rel φ ⟨h.next+n,h.tr⟩ w:=
 ⟨hn,fun id v l e=>let ⟨a,b,c⟩:=R.dom id v l e;⟨by show id<h.next+n;omega,b,c⟩,R.blk,R.apart⟩
theorem vop_ok {cf:CallF} (hcf:CallS P G cf) (o:Oper) {h:H} {k:KV} (hm:vop P cf q o.op h k=true) {φ:Phi} {ρ:Operand→Value} {w:World} (hg:GlobOk P G φ) (hρ:∀ f,ρ (.func f)=.func (.func f) #[] #[]) (r:QR φ q ρ) (R:Rel φ h w):OpRun P (execOp ρ o) w (FPost k φ h w):=by
 unfold vop at hm
 split at hm
 ·obtain ⟨v,c,h1,h2,h3⟩:=pop_ok o hm φ ρ h w r R
  exact .inl ⟨c,w,h1,v,h,φ,h3,h2,R,.refl _ _ _⟩
 ·obtain ⟨v,c,h1,h2,h3⟩:=lop_ok o hm r R
  exact .inl ⟨c,w,h1,v,h,φ,h3,h2,R,.refl _ _ _⟩
 ·obtain ⟨h1,h2⟩:=both_true hm
  have h1:=ble_true h1
  obtain ⟨c,w',e1,v,h',φ',e2,e3,e4,e5,e6⟩:=aop_ok o h2 φ ρ w r (R.resv h1) (Nat.lt_succ_self _) R.fresh
  exact .inl ⟨c,w',e1,v,h',φ',e2,e3,e4,e5 h.next (Nat.le_refl _)⟩
 ·exact fop_ok hcf o hm hg hρ r R
end Go.Bvm
set_option linter.unusedVariables false
namespace Go.Bvm
noncomputable section
abbrev argsK (N:Fr):Nat→Nat→TL→L8→V→(TL→L8→Bool)→Bool
 | 0,i,ρ,e,l,k=>onNil l (k ρ e)
 | n+1,i,ρ,e,l,k=>onCons l fun a r=>match idx N.l i with
  | some j=>argsK N n (i+1) (.c i a ρ) (updL j a e) r k
  | none=>argsK N n (i+1) (.c i a ρ) e r k
abbrev ldV (P:Program) (t:TypeId) (a:V) (h:H) (k:V→Bool):Bool:=if oneT P t=true then ld1 a h k else lda (sizeT P t) a h k
abbrev QF:=L8→H→(V→Bool)→Bool
abbrev resL (P:Program) (N:Fr):List ResultVar→Option QF
 | []=>some fun _ _ k=>k V.nil
 | .tmp t::r=>if t<N.n then (match resL P N r with | some q=>some fun e h k=>q e h fun l=>k (.x .cons (getT N t .n e) l) | none=>none) else none
 | .cell c t::r=>if c<N.n∧hasT P t=true then (match resL P N r with | some q=>some fun e h k=>ldV P t (getT N c .n e) h fun v=>q e h fun l=>k (.x .cons v l) | none=>none) else none
abbrev resE (P:Program) (N:Fr):List ResultVar→Option QF
 | [.tmp t]=>if t<N.n then some fun e h k=>k (getT N t .n e) else none
 | [.cell c t]=>if c<N.n∧hasT P t=true then some fun e h k=>ldV P t (getT N c .n e) h k else none
 | l=>match resL P N l with | some q=>some fun e h k=>q e h fun l=>k (.x .tup l V.nil) | none=>none
def finK (q:QF) (k:KV) (x:X) (e:L8) (h:H):Bool:=X.rec (motive:=fun _=>Bool) (q e h fun v=>k v h) (fun _=>false) (q e h fun v=>k v h) x
def noF:V→H→KV→Bool:=fun _ _ _=>false
variable (P:Program) (G:Nat→Bool) (LF:Nat→List Nat) (OF:Nat→Nat→Option (Nat×List Od)) (cf:CallF) (lf:Nat)
abbrev fnF (f:Nat):V→H→KV→Bool:=match P.funcs[f]? with
 | some fn=>if fn.name == "runtime.NumGoroutine" then noF else if (LF f).length≤64∧fn.params.size+fn.nfree≤fn.ntmps then (match fn.body,resE P ⟨fn.ntmps,LF f,OF f⟩ fn.results.toList with
  | some c,some q=>fun l h k=>argsK ⟨fn.ntmps,LF f,OF f⟩ (fn.params.size+fn.nfree) 0 .n e0 l fun ρ e=>exec P G cf lf ⟨fn.ntmps,LF f,OF f⟩ c ρ e h fun x e' h'=>finK q k x e' h'
  | _,_=>noF) else noF
 | none=>noF
end
end Go.Bvm
set_option linter.unusedVariables false
namespace Go.Bvm
def RetG {α:Type} (F:(α→Bool)→Bool):Prop:=(∀ k,F k=false)∨∃ a,∀ k,F k=k a
section
variable {α:Type}
theorem RetG.no:RetG (fun _:α→Bool=>false):=.inl fun _=>rfl
theorem RetG.k (a:α):RetG (fun k:α→Bool=>k a):=.inr ⟨a,fun _=>rfl⟩
theorem RetG.onW {v:V} {f:Nat→(α→Bool)→Bool} (h:∀ n,RetG (f n)):RetG (fun k=>onW v fun n=>f n k):=by
 cases v <;> first | exact .no | exact h _
theorem RetG.onY {v:V} {f:Nat→(α→Bool)→Bool} (h:∀ n,RetG (f n)):RetG (fun k=>onY v fun n=>f n k):=by
 cases v <;> first | exact .no | exact h _
theorem RetG.onT {v:V} {f:Bool→(α→Bool)→Bool} (h:∀ n,RetG (f n)):RetG (fun k=>onT v fun n=>f n k):=by
 cases v <;> first | exact .no | exact h _
theorem RetG.onS {v:V} {f:Nat→Nat→(α→Bool)→Bool} (h:∀ l n,RetG (f l n)):RetG (fun k=>onS v fun l n=>f l n k):=by
 cases v <;> first | exact .no | exact h _ _
theorem RetG.onP {v:V} {f:Nat→Nat→Nat→Nat→(α→Bool)→Bool} (h:∀ a b c d,RetG (f a b c d)):RetG (fun k=>onP v fun a b c d=>f a b c d k):=by
 cases v <;> first | exact .no | exact h _ _ _ _
theorem RetG.onSl {v:V} {g:(α→Bool)→Bool} {f:Nat→Nat→Nat→Nat→Nat→(α→Bool)→Bool} (hn:RetG g) (h:∀ a b c d e,RetG (f a b c d e)):RetG (fun k=>onSl v (g k) fun a b c d e=>f a b c d e k):=by
 cases v with
 | sl a b c d e=>exact h _ _ _ _ _
 | x t a b=>cases t <;> first | exact .no | exact hn
 | _=>exact .no
theorem RetG.onAgg {v:V} {f:V→(α→Bool)→Bool} (h:∀ n,RetG (f n)):RetG (fun k=>onAgg v fun n=>f n k):=by
 cases v with
 | x t a b=>cases t <;> first | exact .no | exact h _
 | _=>exact .no
theorem RetG.onTup {v:V} {f:V→(α→Bool)→Bool} (h:∀ n,RetG (f n)):RetG (fun k=>onTup v fun n=>f n k):=by
 cases v with
 | x t a b=>cases t <;> first | exact .no | exact h _
 | _=>exact .no
theorem RetG.onFn {v:V} {f:Nat→V→V→(α→Bool)→Bool} (h:∀ a b c,RetG (f a b c)):RetG (fun k=>onFn v fun a b c=>f a b c k):=by
 cases v with
 | x t a b=>cases t <;> first | exact .no | exact h _ _ _
 | _=>exact .no
theorem RetG.onI {v:V} {f:IntKind→Int→(α→Bool)→Bool} (h:∀ a b,RetG (f a b)):RetG (fun k=>onI v fun a b=>f a b k):=by
 cases v with
 | x t a b=>cases t <;> first | exact .no | exact h _ _
 | _=>exact .no
theorem RetG.onCons {v:V} {f:V→V→(α→Bool)→Bool} (h:∀ a b,RetG (f a b)):RetG (fun k=>onCons v fun a b=>f a b k):=by
 cases v with
 | x t a b=>cases t <;> first | exact .no | exact h _ _
 | _=>exact .no
theorem RetG.onNil {v:V} {f:(α→Bool)→Bool} (h:RetG f):RetG (fun k=>onNil v (f k)):=by
 cases v with
 | x t a b=>cases t <;> first | exact .no | exact h
 | _=>exact .no
theorem RetG.onBk {b:Blk} {f:Arr→Nat→Nat→Nat→Nat→Bool→Bool→(α→Bool)→Bool} (h:∀ a b c d e g i,RetG (f a b c d e g i)):RetG (fun k=>onBk b fun a b c d e g i=>f a b c d e g i k):=by
 cases b <;> first | exact .no | exact h _ _ _ _ _ _ _
theorem RetG.onIt {b:Blk} {f:Nat→Nat→Nat→(α→Bool)→Bool} (h:∀ a b c,RetG (f a b c)):RetG (fun k=>Bvm.onIt b fun a b c=>f a b c k):=by
 cases b <;> first | exact .no | exact h _ _ _
theorem RetG.onMp {b:Blk} {f:V→(α→Bool)→Bool} (h:∀ a,RetG (f a)):RetG (fun k=>Bvm.onMp b fun a=>f a k):=by
 cases b <;> first | exact .no | exact h _
theorem RetG.onMap {v:V} {g:(α→Bool)→Bool} {f:Nat→(α→Bool)→Bool} (hn:RetG g) (h:∀ a,RetG (f a)):RetG (fun k=>Bvm.onMap v (g k) fun a=>f a k):=by
 cases v with
 | x t a b=>cases t <;> first | exact .no | exact hn | exact h _
 | _=>exact .no
theorem RetG.fndK {l n:Nat} {yes:V→(α→Bool)→Bool} {no:(α→Bool)→Bool} (hy:∀ v,RetG (yes v)) (hn:RetG no):∀ kv:V,RetG (fun k=>Bvm.fndK l n kv (fun v=>yes v k) (no k)):=by
 intro kv
 induction kv with
 | x g e r _ ih=>
  cases g <;> first | exact .no | exact hn | skip
  show RetG (fun k=>Bvm.onCons e fun key val=>Bvm.onS key fun l' n'=>Bvm.bs (seqB l n l' n') (yes val k) (Bvm.fndK l n r (fun v=>yes v k) (no k)))
  cases e with
  | x g key val=>
   cases g <;> first | exact .no | skip
   show RetG (fun k=>Bvm.onS key fun l' n'=>Bvm.bs (seqB l n l' n') (yes val k) (Bvm.fndK l n r (fun v=>yes v k) (no k)))
   cases key <;> first | exact .no | skip
   rename_i l' n' _
   show RetG (fun k=>Bvm.bs (seqB l n l' n') (yes val k) (Bvm.fndK l n r (fun v=>yes v k) (no k)))
   cases seqB l n l' n'
   ·exact ih
   ·exact hy _
  | _=>exact .no
 | _=>exact .no
theorem RetG.both {b:Bool} {f:(α→Bool)→Bool} (h:RetG f):RetG (fun k=>both b (f k)):=by
 cases b
 ·exact .no
 ·exact h
theorem RetG.bs {b:Bool} {f g:(α→Bool)→Bool} (h:RetG f) (h':RetG g):RetG (fun k=>bs b (f k) (g k)):=by
 cases b
 ·exact h'
 ·exact h
theorem RetG.bind {β:Type} {F:(β→Bool)→Bool} {f:β→(α→Bool)→Bool} (hF:RetG F) (h:∀ b,RetG (f b)):RetG (fun k=>F fun b=>f b k):=by
 rcases hF with e | ⟨b,e⟩
 ·exact .inl fun k=>e _
 ·rcases h b with e2 | ⟨a,e2⟩
  ·exact .inl fun k=>(e _).trans (e2 k)
  ·exact .inr ⟨a,fun k=>(e _).trans (e2 k)⟩
theorem RetG.un {q:Operand→Option V} {x:Operand} {f:V→(α→Bool)→Bool} (h:∀ a,RetG (f a)):RetG (fun k=>un q x fun a=>f a k):=by
 unfold Bvm.un
 cases q x
 ·exact .no
 ·exact h _
theorem RetG.bi {q:Operand→Option V} {x y:Operand} {f:V→V→(α→Bool)→Bool} (h:∀ a b,RetG (f a b)):RetG (fun k=>bi q x y fun a b=>f a b k):=by
 unfold Bvm.bi
 cases q x <;> cases q y <;> first | exact .no | exact h _ _
theorem RetG.bdo {q:Operand→Option V} {x:Option Operand} {f:Option V→(α→Bool)→Bool} (h:∀ a,RetG (f a)):RetG (fun k=>bdo q x fun a=>f a k):=by
 unfold Bvm.bdo
 cases x with
 | none=>exact h _
 | some y=>dsimp only;cases q y <;> first | exact .no | exact h _
end
def Ret1 (f:F1):Prop:=∀ x,RetG (f x)
def Ret2 (f:F2):Prop:=∀ x y,RetG (f x y)
theorem ret_addW:Ret2 addW:=fun x y=>.onW fun a=>.onW fun b=>.k _
theorem ret_addY:Ret2 addY:=fun x y=>.onY fun a=>.onY fun b=>.k _
theorem ret_subW:Ret2 subW:=fun x y=>.onW fun a=>.onW fun b=>.k _
theorem ret_subY:Ret2 subY:=fun x y=>.onY fun a=>.onY fun b=>.k _
theorem ret_lssW:Ret2 lssW:=fun x y=>.onW fun a=>.onW fun b=>.k _
theorem ret_lssY:Ret2 lssY:=fun x y=>.onY fun a=>.onY fun b=>.k _
theorem ret_leqW:Ret2 leqW:=fun x y=>.onW fun a=>.onW fun b=>.k _
theorem ret_leqY:Ret2 leqY:=fun x y=>.onY fun a=>.onY fun b=>.k _
theorem ret_gtrW:Ret2 gtrW:=fun x y=>.onW fun a=>.onW fun b=>.k _
theorem ret_gtrY:Ret2 gtrY:=fun x y=>.onY fun a=>.onY fun b=>.k _
theorem ret_geqY:Ret2 geqY:=fun x y=>.onY fun a=>.onY fun b=>.k _
theorem ret_eqlW:Ret2 eqlW:=fun x y=>.onW fun a=>.onW fun b=>.k _
theorem ret_eqlY:Ret2 eqlY:=fun x y=>.onY fun a=>.onY fun b=>.k _
theorem ret_neqW:Ret2 neqW:=fun x y=>.onW fun a=>.onW fun b=>.k _
theorem ret_neqY:Ret2 neqY:=fun x y=>.onY fun a=>.onY fun b=>.k _
theorem ret_eqlS:Ret2 eqlS:=fun x y=>.onS fun l n=>.onS fun l' n'=>.k _
theorem ret_neqS:Ret2 neqS:=fun x y=>.onS fun l n=>.onS fun l' n'=>.k _
theorem ret_catV:Ret2 catV:=fun x y=>.onS fun l n=>.onS fun l' n'=>.both (.k _)
theorem ret_arith {fw fy:Nat→Nat→(V→Bool)→Bool} {fz:IntKind→Int→Int→(V→Bool)→Bool} (hw:∀ a b,RetG (fw a b)) (hy:∀ a b,RetG (fy a b)) (hz:∀ q a b,RetG (fz q a b)):Ret2 (arith fw fy fz):=fun x y=>
 .bs (.both (hw _ _)) (.bs (.both (hy _ _)) (.both (.both (.both (hz _ _ _)))))
theorem ret_addV:Ret2 addV:=ret_arith (fun _ _=>.k _) (fun _ _=>.k _) (fun _ _ _=>.k _)
theorem ret_subV:Ret2 subV:=ret_arith (fun _ _=>.k _) (fun _ _=>.k _) (fun _ _ _=>.k _)
theorem ret_mulV:Ret2 mulV:=ret_arith (fun _ _=>.k _) (fun _ _=>.k _) (fun _ _ _=>.k _)
theorem ret_quoV:Ret2 quoV:=ret_arith (fun _ _=>.both (.both (.k _))) (fun _ _=>.both (.k _)) (fun _ _ _=>.bs .no (.k _))
theorem ret_remV:Ret2 remV:=ret_arith (fun _ _=>.both (.both (.k _))) (fun _ _=>.both (.k _)) (fun _ _ _=>.bs .no (.k _))
theorem ret_maxV:Ret2 maxV:=ret_arith (fun _ _=>.k _) (fun _ _=>.k _) (fun _ _ _=>.k _)
theorem ret_minV:Ret2 minV:=ret_arith (fun _ _=>.k _) (fun _ _=>.k _) (fun _ _ _=>.k _)
theorem ret_cmpV {f:Nat→Nat→Bool} {g:Int→Int→Bool} {hs:Nat→Nat→Nat→Nat→(V→Bool)→Bool} (h:∀ a b c d,RetG (hs a b c d)):Ret2 (cmpV f g hs):=fun x y=>
 .bs (.both (.k _)) (.bs (.both (.k _)) (.bs (.both (h _ _ _ _)) (.both (.both (.both (.k _))))))
theorem ret_lssV:Ret2 lssV:=ret_cmpV fun _ _ _ _=>.k _
theorem ret_leqV:Ret2 leqV:=ret_cmpV fun _ _ _ _=>.k _
theorem ret_gtrV:Ret2 gtrV:=ret_cmpV fun _ _ _ _=>.k _
theorem ret_geqV:Ret2 geqV:=fun x y=>.bs (.onW fun m=>.both (.k _)) (ret_cmpV (fun _ _ _ _=>.k _) x y)
theorem ret_eqlP (f:Bool→Bool):Ret2 (eqlP f):=ret_cmpV fun _ _ _ _=>.k _
theorem ret_eqT (f:Bool→Bool):Ret2 (eqT f):=fun x y=>.onT fun a=>.onT fun b=>.k _
theorem ret_eqN {nk:V→(Bool→Bool)→Bool} (h:∀ v,RetG (nk v)) (f:Bool→Bool):Ret2 (eqN nk f):=fun x y=>
 RetG.bind (F:=nk x) (f:=fun a (k:V→Bool)=>nk y fun b=>both (bs a true b) (k (V.t (f (both a b))))) (h x) fun a=>
  RetG.bind (F:=nk y) (f:=fun b (k:V→Bool)=>both (bs a true b) (k (V.t (f (both a b))))) (h y) fun b=>.both (.k _)
theorem ret_nilP (v:V):RetG (nilP v):=by
 cases v with
 | x t a b=>cases t <;> first | exact .no | exact .k _
 | p=>exact .k _
 | _=>exact .no
theorem ret_nilS (v:V):RetG (nilS v):=by
 cases v with
 | x t a b=>cases t <;> first | exact .no | exact .k _
 | sl=>exact .k _
 | _=>exact .no
theorem ret_nilI (v:V):RetG (nilI v):=by
 cases v with
 | x t a b=>cases t <;> first | exact .no | exact .k _
 | _=>exact .no
theorem ret_nilM (v:V):RetG (nilM v):=by
 cases v with
 | x t a b=>cases t <;> first | exact .no | exact .k _
 | _=>exact .no
theorem ret_nilF (v:V):RetG (nilF v):=by
 cases v with
 | x t a b=>cases t <;> first | exact .no | exact .k _
 | _=>exact .no
theorem ret_no2:Ret2 no2:=fun _ _=>.no
variable (P:Program)
theorem ret_byK {t:TypeId} {w y z s:F2} (hw:Ret2 w) (hy:Ret2 y) (hz:Ret2 z) (hs:Ret2 s):Ret2 (byK P t w y z s):=by
 unfold byK
 split
 ·exact hw
 ·exact hy
 ·exact hz
 ·exact hs
 ·exact ret_no2
theorem ret_eqPt (f:Bool→Bool):Ret2 (eqPt f):=fun x y=>.bs (.onP fun i o l v=>.onP fun i' o' l' v'=>.both (.both (.both (.k _)))) (ret_eqN ret_nilP f x y)
theorem ret_eqF (f:Bool→Bool) (t:TypeId):Ret2 (eqF P f t):=by
 unfold eqF
 split
 ·exact ret_eqT f
 ·split
  ·exact ret_eqPt f
  ·exact ret_no2
 ·exact ret_eqN ret_nilS f
 ·exact ret_eqN ret_nilI f
 ·exact ret_eqN ret_nilM f
 ·exact ret_eqN ret_nilF f
 ·exact ret_no2
theorem RetG.onIx {α:Type} {v:V} {f:Nat→(α→Bool)→Bool} (h:∀ n,RetG (f n)):RetG (fun k=>onIx v fun n=>f n k):=
 .bs (.onW fun i=>.both (h _)) (.bs (.onY fun n=>h n) (.onI fun q n=>.both (h _)))
theorem ret_shrV:Ret2 shrV:=fun x y=>.onIx fun b=>.bs (.both (.onW fun n=>.both (.k _))) (.bs (.both (.onY fun n=>.k _)) (.onI fun q a=>.both (.k _)))
theorem ret_copD (x:V):RetG (copD x):=.onSl (.k _) fun _ _ _ _ _=>.k _
theorem ret_copL:Ret2 copL:=fun x y=>.onSl (ret_copD x) fun _ _ _ _ _=>.both (ret_copD x)
theorem ret_binF (op:BinOp) (t:TypeId):Ret2 (binF P op t):=by
 unfold binF
 split
 ·exact ret_byK P ret_addW ret_addY ret_addV ret_catV
 ·exact ret_byK P ret_subW ret_subY ret_subV ret_no2
 ·exact ret_byK P ret_mulV ret_mulV ret_mulV ret_no2
 ·exact ret_byK P ret_quoV ret_quoV ret_quoV ret_no2
 ·exact ret_byK P ret_remV ret_remV ret_remV ret_no2
 ·exact ret_byK P ret_lssW ret_lssY ret_lssV ret_lssV
 ·exact ret_byK P ret_leqW ret_leqY ret_leqV ret_leqV
 ·exact ret_byK P ret_gtrW ret_gtrY ret_gtrV ret_gtrV
 ·exact ret_byK P ret_geqV ret_geqY ret_geqV ret_geqV
 ·split
  ·exact ret_eqlW
  ·exact ret_eqlY
  ·exact ret_eqlP _
  ·exact ret_eqlS
  ·exact ret_eqF P _ t
 ·split
  ·exact ret_neqW
  ·exact ret_neqY
  ·exact ret_eqlP _
  ·exact ret_neqS
  ·exact ret_eqF P _ t
 ·exact ret_shrV
 ·exact ret_no2
theorem ret_toW:Ret1 toW:=fun v=>by
 cases v with
 | w=>exact .k _
 | y=>exact .k _
 | x t a b=>cases t <;> first | exact .no | exact .k _
 | _=>exact .no
theorem ret_toY:Ret1 toY:=fun v=>by
 cases v with
 | w=>exact .k _
 | y=>exact .k _
 | x t a b=>cases t <;> first | exact .no | exact .k _
 | _=>exact .no
theorem ret_toI (q:IntKind):Ret1 (toI q):=fun v=>by
 cases v with
 | w=>exact .k _
 | y=>exact .k _
 | x t a b=>cases t <;> first | exact .no | exact .k _
 | _=>exact .no
theorem ret_convF (s t:TypeId):Ret1 (convF P s t):=by
 unfold convF
 split
 ·split
  ·exact ret_toW
  ·split
   ·exact ret_toY
   ·exact ret_toI _
 ·exact fun v=>.onS fun l n=>.k _
 ·exact fun _=>.no
theorem ret_nilckV:Ret1 nilckV:=fun v=>by
 cases v with
 | x t a b=>cases t <;> first | exact .no | exact .k _
 | _=>exact .k _
theorem ret_bnd (x:Option V) (d:Nat):RetG (bnd x d):=by
 cases x with
 | none=>exact .k _
 | some v=>exact .onW fun i=>.both (.k _)
theorem ret_vnth (l:V):∀ n:Nat,RetG (vnth l n):=by
 induction l with
 | x g a b iha ihb=>
  intro n
  cases g <;> first | exact .no | skip
  cases n with
  | zero=>exact .k _
  | succ n=>exact ihb n
 | _=>intro n;exact .no
theorem ret_ext (i:Nat):Ret1 (ext i):=fun x=>.onTup fun l=>ret_vnth l i
theorem ret_vdrop (l:V):∀ n:Nat,RetG (vdrop l n):=by
 induction l with
 | x g a b iha ihb=>
  intro n
  cases g <;> first | exact .no | skip
  all_goals cases n
  ·exact .k _
  ·exact ihb _
  ·exact .k _
  ·exact .no
 | _=>intro n;exact .no
theorem ret_vtake (l:V):∀ n:Nat,RetG (vtake l n):=by
 induction l with
 | x g a b iha ihb=>
  intro n
  cases g <;> first | exact .no | skip
  all_goals cases n
  ·exact .k _
  ·rename_i n;exact RetG.bind (F:=vtake b n) (f:=fun r (k:V→Bool)=>k (.x .cons a r)) (ihb n) fun r=>.k _
  ·exact .k _
  ·exact .no
 | _=>intro n;exact .no
theorem ret_vput (l:V):∀ (off:Nat) (vs:V),RetG (vput l off vs):=by
 induction l with
 | x g a b iha ihb=>
  intro off vs
  cases g <;> first | exact .no | skip
  all_goals cases off
  ·cases vs with
   | x g' v vr=>
    cases g' <;> first | exact .no | exact .k _ | skip
    exact RetG.bind (F:=vput b 0 vr) (f:=fun r (k:V→Bool)=>k (.x .cons v r)) (ihb 0 vr) fun r=>.k _
   | _=>exact .no
  ·rename_i m;exact RetG.bind (F:=vput b m vs) (f:=fun r (k:V→Bool)=>k (.x .cons a r)) (ihb m vs) fun r=>.k _
  ·cases vs with
   | x g' v vr=>cases g' <;> first | exact .no | exact .k _
   | _=>exact .no
  ·exact .no
 | _=>intro n vs;exact .no
theorem ret_fieldV (one:Bool) (o n:Nat):Ret1 (fieldV one o n):=fun x=>.onAgg fun l=>
 RetG.bind (F:=vdrop l o) (f:=fun r (k:V→Bool)=>bs one (vnth r 0 k) (vtake r n fun q=>k (.x .agg q V.nil))) (ret_vdrop l o) fun r=>
  .bs (ret_vnth r 0) (RetG.bind (F:=vtake r n) (f:=fun q (k:V→Bool)=>k (.x .agg q V.nil)) (ret_vtake r n) fun q=>.k _)
theorem ret_part (off:Nat) (one:Bool) (n:Nat) (x l:V):RetG (part off one n x l):=
 .bs (.both (.both (ret_vput _ _ _))) (.onAgg fun q=>.both (ret_vput _ _ _))
theorem ret_parts {q:Operand→Option V} {place:Nat→Option (Nat×TypeId)}:∀ (ps:List (Nat×Operand)) (l:V),RetG (parts P q place ps l)
 | [],l=>.k _
 | (i,x)::r,l=>by
  show RetG (fun k=>match place i,q x with | some (off,t),some g=>if hasT P t then part off (oneT P t) (sizeT P t) g l fun l'=>parts P q place r l' k else false | _,_=>false)
  split
  ·split
   ·exact RetG.bind (F:=part _ _ _ _ l) (f:=fun l' (k:V→Bool)=>parts P q place r l' k) (ret_part _ _ _ _ _) fun l'=>ret_parts r l'
   ·exact .no
  ·exact .no
theorem ret_lay (l:V):∀ (n i:Nat) (c:Arr),RetG (lay l n i c):=by
 induction l with
 | x g a b iha ihb=>
  intro n i c
  cases g <;> first | exact .no | skip
  all_goals cases n
  ·exact .no
  ·exact ihb _ _ _
  ·exact .k _
  ·exact .no
 | _=>intro n i c;exact .no
theorem ret_layV (one:Bool) (v:V) (n i:Nat) (c:Arr):RetG (layV one v n i c):=
 .bs (.both (.both (.k _))) (.onAgg fun l=>ret_lay l n i c)
theorem ret_eqI (x y:V):RetG (eqI x y):=.bs (.onW fun a=>.onW fun b=>.k _) (.bs (.onY fun a=>.onY fun b=>.k _) (RetG.onI fun q n=>RetG.onI fun q' m=>.both (.k _)))
theorem ret_eq1 (c:Nat) (x y:V):RetG (eq1 c x y):=.bs (ret_eqI x y) (.bs (.onS fun l n=>.onS fun l' n'=>.k _) (.onT fun a=>.onT fun b=>.k _))
theorem ret_eqLs:∀ (ks:List Nat) (x y:V),RetG (eqLs ks x y)
 | [],x,y=>.onNil (.onNil (.k _))
 | c::r,x,y=>.onCons fun a x'=>.onCons fun b y'=>RetG.bind (F:=eq1 c a b) (f:=fun r1 (k:Bool→Bool)=>eqLs r x' y' fun q=>k (bs r1 q false)) (ret_eq1 c a b) fun r1=>
   RetG.bind (F:=eqLs r x' y') (f:=fun q (k:Bool→Bool)=>k (bs r1 q false)) (ret_eqLs r x' y') fun q=>.k _
theorem ret_eqAg (ks:List Nat) (f:Bool→Bool):Ret2 (eqAg ks f):=fun x y=>.onAgg fun l=>.onAgg fun m=>RetG.bind (F:=eqLs ks l m) (f:=fun r (k:V→Bool)=>k (.t (f r))) (ret_eqLs ks l m) fun r=>.k _
theorem ret_packA (c:Arr):∀ n i:Nat,RetG (packA c n i)
 | 0,i=>.k _
 | n+1,i=>.onY fun b=>RetG.bind (F:=packA c n (i+1)) (f:=fun r (k:Nat→Bool)=>k (b+256*r)) (ret_packA c n (i+1)) fun r=>.k _
end Go.Bvm
set_option linter.unusedVariables false
namespace Go.Bvm
variable {P:Program} {q:Operand→Option V}
theorem ret_pop (o:Op):RetG (fun k=>pop P q o k):=by
 unfold pop
 split
 ·exact .un fun a=>.k a
 ·exact .un fun a=>.k a
 ·exact .un fun c=>.bi fun a b=>.onT fun t=>.k _
 ·exact .un fun a=>ret_nilckV a
 ·split
  ·split
   ·exact .bi fun a b=>ret_eqAg _ _ a b
   ·exact .bi fun a b=>ret_eqAg _ _ a b
   ·exact .no
  ·split
   ·exact .bi fun a b=>ret_binF P _ _ a b
   ·exact .no
 ·exact .un fun a=>.onT fun b=>.k _
 ·exact .un fun a=>.onW fun b=>.k _
 ·exact .un fun a=>ret_convF P _ _ a
 ·split
  ·split
   ·exact .bdo fun l=>.bdo fun u=>.un fun a=>.onP fun id off lim ver=>.both (RetG.bind (F:=bnd u _) (f:=fun b (k:V→Bool)=>both (Nat.ble b _) (bnd l 0 fun c=>both (Nat.ble c b) (k _))) (ret_bnd u _) fun b=>.both (RetG.bind (F:=bnd l 0) (f:=fun c (k:V→Bool)=>both (Nat.ble c b) (k _)) (ret_bnd l 0) fun c=>.both (.k _)))
   ·exact .no
  ·exact .bdo fun l=>.bdo fun u=>.un fun a=>.onS fun len n=>RetG.bind (F:=bnd u _) (f:=fun b (k:V→Bool)=>both (Nat.ble b _) (bnd l 0 fun c=>both (Nat.ble c b) (k _))) (ret_bnd u _) fun b=>.both (RetG.bind (F:=bnd l 0) (f:=fun c (k:V→Bool)=>both (Nat.ble c b) (k _)) (ret_bnd l 0) fun c=>.both (.k _))
  ·split
   ·exact .bdo fun l=>.bdo fun u=>.un fun a=>.onSl
     (RetG.bind (F:=bnd u 0) (f:=fun b (k:V→Bool)=>both (Nat.ble b 0) (bnd l 0 fun c=>both (Nat.ble c b) (k _))) (ret_bnd u _) fun b=>.both (RetG.bind (F:=bnd l 0) (f:=fun c (k:V→Bool)=>both (Nat.ble c b) (k _)) (ret_bnd l 0) fun c=>.both (.k _)))
     fun id off len ver es=>.both (RetG.bind (F:=bnd u len) (f:=fun b (k:V→Bool)=>both (Nat.ble b len) (bnd l 0 fun c=>both (Nat.ble c b) (k _))) (ret_bnd u _) fun b=>.both (RetG.bind (F:=bnd l 0) (f:=fun c (k:V→Bool)=>both (Nat.ble c b) (k _)) (ret_bnd l 0) fun c=>.both (.k _)))
   ·exact .no
  ·exact .no
 ·split
  ·split
   ·split
    ·exact .no
    ·exact .un fun a=>.onP fun _ _ _ _=>.k _
   ·exact .no
  ·exact .no
 ·split
  ·split
   ·exact .bi fun a b=>.onSl .no fun id off len ver es=>.onW fun i=>.both (.both (.both (.k _)))
   ·exact .no
  ·split
   ·exact .bi fun a b=>.onP fun id off lim ver=>.onW fun i=>.both (.both (.k _))
   ·exact .no
  ·exact .no
 ·split
  ·exact .bi fun a b=>.onS fun l n=>.onIx fun i=>.both (.k _)
  ·exact .no
 ·split
  ·split
   ·split
    ·exact .un fun a=>ret_fieldV _ _ _ a
    ·exact .no
   ·exact .no
  ·exact .no
 ·split
  ·split
   ·split
    ·split
     ·exact RetG.bind (F:=fun k=>parts P q _ _ _ k) (f:=fun l (k:V→Bool)=>k (.x .agg l V.nil)) (ret_parts P _ _) fun l=>.k _
     ·exact .no
    ·exact .no
   ·exact .no
  ·exact .no
 ·split
  ·exact .k _
  ·exact .no
 ·split
  ·exact .no
  ·exact .un fun a=>.k _
  ·exact .no
 ·exact .un fun a=>ret_ext _ a
 ·split
  ·split
   ·exact .un fun a=>.onS fun l n=>.both (.k _)
   ·exact .un fun a=>.bs (.k _) (.onSl (.k _) fun _ _ c _ _=>.both (.k _))
   ·exact .no
  ·exact .un fun a=>.onSl (.k _) fun id off len ver es=>.both (.k _)
  ·split
   ·exact .un fun a=>.onSl (.k _) fun _ _ _ _ _=>.no
   ·exact .no
  ·split
   ·split
    ·exact .bi fun a b=>ret_copL a b
    ·exact .no
   ·exact .no
  ·exact .bi fun a b=>ret_maxV a b
  ·exact .bi fun a b=>ret_minV a b
  ·exact .no
 ·exact .no
theorem ret_lop (o:Op) (h:H):RetG (fun k=>lop P q o h k):=by
 unfold lop
 split
 ·split
  ·refine .un fun a=>?_
   split
   ·exact .onP fun id off lim ver=>.onBk fun c _ bver _ _ _ _=>.both (.both (.k _))
   ·exact .onP fun id off lim ver=>.onBk fun c _ bver _ _ _ _=>.both (.both (.k _))
  ·exact .no
 ·split
  ·split
   ·exact .un fun a=>.onSl (.k _) fun id off len ver es=>.both (.onBk fun c _ bver _ _ _ _=>.both (RetG.bind (F:=packA c len off) (f:=fun r (k:V→Bool)=>k (.s len r)) (ret_packA c len off) fun r=>.k _))
   ·exact .no
  ·split
   ·exact .no
   ·exact .un fun a=>.bs (.k _) (.onP fun id off lim ver=>.onBk fun c size bver frz elem ex own=>.both (.both (.k _)))
  ·split
   ·split
    ·exact .no
    ·exact .un fun a=>.bs (.k _) (.onP fun id off lim ver=>.onBk fun c size bver frz elem ex own=>.both (.both (.both (.both (.both (.k _))))))
   ·exact .no
  ·exact .no
 ·split
  ·split
   ·split
    ·split
     ·exact .bi fun u v=>.onS fun l n=>.onMap (.k _) fun id=>.onMp fun kv=>RetG.fndK (yes:=fun v k=>k (mpR _ v true)) (no:=fun k=>k (mpR _ _ false)) (fun v=>.k _) (.k _) kv
     ·exact .no
    ·exact .no
   ·exact .no
  ·exact .no
 ·exact .no
def RetV (F:KV→Bool):Prop:=RetG (fun k:V×H→Bool=>F fun v h=>k (v,h))
theorem RetV.iff {F:KV→Bool}:RetV F↔(∀ k,F k=false)∨∃ v h,∀ k,F k=k v h:=by
 constructor
 ·rintro (h | ⟨⟨v,h'⟩,h⟩)
  ·exact .inl fun k=>h fun x=>k x.1 x.2
  ·exact .inr ⟨v,h',fun k=>h fun x=>k x.1 x.2⟩
 ·rintro (h | ⟨v,h',h⟩)
  ·exact .inl fun k=>h _
  ·exact .inr ⟨(v,h'),fun k=>h _⟩
theorem ret_aop (o:Op) (id:Nat):(∀ h k,aop P q o id h k=false)∨∃ v b,∀ h k,aop P q o id h k=k v ⟨h.next,hset id b h.tr⟩:=by
 have key:∀ {β:Type} (F:(β→Bool)→Bool) (f:β→H→KV→Bool),RetG F→(∀ c,(∀ h k,f c h k=false)∨∃ v b,∀ h k,f c h k=k v ⟨h.next,hset id b h.tr⟩)→
   ((∀ h k,F (fun c=>f c h k)=false)∨∃ v b,∀ (h:H) (k:KV),F (fun c=>f c h k)=k v ⟨h.next,hset id b h.tr⟩):=by
  intro β F f hF hf
  rcases hF with e | ⟨a,e⟩
  ·exact .inl fun h k=>e _
  ·rcases hf a with e2 | ⟨v,b,e2⟩
   ·exact .inl fun h k=>(e _).trans (e2 h k)
   ·exact .inr ⟨v,b,fun h k=>(e _).trans (e2 h k)⟩
 have hboth:∀ {x:Bool} {f:H→KV→Bool},((∀ h k,f h k=false)∨∃ v b,∀ h k,f h k=k v ⟨h.next,hset id b h.tr⟩)→((∀ h k,both x (f h k)=false)∨∃ v b,∀ (h:H) (k:KV),both x (f h k)=k v ⟨h.next,hset id b h.tr⟩):=by
  intro x f hf
  cases x
  ·exact .inl fun _ _=>rfl
  ·exact hf
 have hnew:∀ one n elem y,(∀ h k,newA id one n elem y h k=false)∨∃ v b,∀ (h:H) (k:KV),newA id one n elem y h k=k v ⟨h.next,hset id b h.tr⟩:=fun one n elem y=>
  hboth (hboth (key (layV one y n 0 (fresh n)) (fun c h k=>k (.p id 0 n 0) ⟨h.next,hset id (.bk c n 0 0 elem true true) h.tr⟩) (ret_layV _ _ _ _ _) fun c=>.inr ⟨_,_,fun h k=>rfl⟩))
 unfold aop
 split
 ·split
  ·exact key (fun k=>un q _ k) _ (.un fun a=>.k a) fun a=>hnew _ _ _ _
  ·exact .inl fun _ _=>rfl
 ·split
  ·split
   ·split
    ·split
     ·exact hnew _ _ _ _
     ·exact .inl fun _ _=>rfl
    ·exact .inl fun _ _=>rfl
   ·exact .inl fun _ _=>rfl
  ·exact .inl fun _ _=>rfl
 ·split
  ·split
   ·refine key (fun k=>un q _ k) _ (.un fun a=>.k a) fun a=>?_
    refine key (β:=Nat×Nat) (fun k=>onS a fun l n=>k (l,n)) (fun c h k=>both (Nat.ble c.1 17179869184) (k (.sl id 0 c.1 0 1) ⟨h.next,hset id (.bk (abytes c.1 c.2 0 (fresh c.1)) c.1 0 0 _ false true) h.tr⟩)) (.onS fun l n=>.k _) fun c=>hboth (.inr ⟨_,_,fun h k=>rfl⟩)
   ·exact .inl fun _ _=>rfl
  ·exact .inl fun _ _=>rfl
 ·split
  ·split
   ·split
    ·split
     ·split
      ·refine key (fun k=>parts P q _ _ _ k) _ (ret_parts P _ _) fun l=>hboth ?_
       exact key (lay l _ 0 _) (fun c h k=>k (.sl id 0 _ 0 _) ⟨h.next,hset id (.bk c _ 0 0 _ true true) h.tr⟩) (ret_lay _ _ _ _) fun c=>.inr ⟨_,_,fun h k=>rfl⟩
      ·exact .inl fun _ _=>rfl
     ·exact .inl fun _ _=>rfl
    ·exact .inl fun _ _=>rfl
   ·exact .inl fun _ _=>rfl
  ·exact .inl fun _ _=>rfl
 ·split
  ·refine key (fun k=>un q _ k) _ (.un fun a=>.k a) fun a=>?_
   exact key (β:=Nat×Nat) (fun k=>onS a fun l n=>k (l,n)) (fun c h k=>both (Nat.ble c.1 1000000000) (k (.p id 0 0 0) ⟨h.next,hset id (.it c.1 c.2 0) h.tr⟩)) (.onS fun l n=>.k _) fun c=>hboth (.inr ⟨_,_,fun h k=>rfl⟩)
  ·exact .inl fun _ _=>rfl
 ·exact .inr ⟨_,_,fun h k=>rfl⟩
 ·split
  ·split
   ·split
    ·split
     ·split
      ·refine key (β:=V×V) (fun k=>bi q _ _ fun a b=>k (a,b)) (fun c h k=>mkslA id _ _ c.1 c.2 h k) (.bi fun a b=>.k _) fun c=>?_
       exact key (onIx c.1) (fun n h k=>onIx c.2 fun m=>both (Nat.beq n m) (both (Nat.ble n 16777216) (k (.sl id 0 n 0 1) ⟨h.next,hset id (.bk (afill n _) n 0 0 _ true true) h.tr⟩))) (.onIx fun n=>.k _) fun n=>
        key (onIx c.2) (fun m h k=>both (Nat.beq n m) (both (Nat.ble n 16777216) (k (.sl id 0 n 0 1) ⟨h.next,hset id (.bk (afill n _) n 0 0 _ true true) h.tr⟩))) (.onIx fun n=>.k _) fun m=>
         hboth (hboth (.inr ⟨_,_,fun h k=>rfl⟩))
      ·exact .inl fun _ _=>rfl
     ·exact .inl fun _ _=>rfl
    ·exact .inl fun _ _=>rfl
   ·exact .inl fun _ _=>rfl
  ·exact .inl fun _ _=>rfl
 ·exact .inl fun _ _=>rfl
end Go.Bvm
set_option linter.unusedVariables false
namespace Go.Bvm
variable {P:Program} {G:Nat→Bool} {N:Fr} {q:Operand→Option V}
def CallRet (cf:CallF):Prop:=∀ f l h,RetV (cf f l h)
def RetS (F:((n:Nat)→(Nat→Arr→Arr)→Bool)→Bool):Prop:=(∀ k,F k=false)∨∃ n s,∀ k,F k=k n s
theorem ret_onSrc (esz:Nat) (v:V) (h:H):RetS (onSrc esz v h):=by
 have hb:∀ (x:Bool) (F:((n:Nat)→(Nat→Arr→Arr)→Bool)→Bool),RetS F→RetS (fun k=>both x (F k)):=fun x F hF=>by
  cases x
  ·exact .inl fun _=>rfl
  ·exact hF
 cases v with
 | s l n=>exact hb _ _ (.inr ⟨_,_,fun k=>rfl⟩)
 | sl id off len ver es=>
  refine hb _ _ ?_
  show RetS (fun k=>onBk (hget id h.tr) fun c size bver _ _ _ _=>both (Nat.beq ver bver) (k len (fun j c'=>acopy c (len*esz) off j c')))
  cases hget id h.tr with
  | bk c size bver frz elem ex own=>exact hb _ _ (.inr ⟨_,_,fun k=>rfl⟩)
  | _=>exact .inl fun _=>rfl
 | x g a b=>cases g <;> first | exact .inl fun _=>rfl | exact .inr ⟨_,_,fun k=>rfl⟩
 | _=>exact .inl fun _=>rfl
theorem ret_app (esz elem:Nat) (x y:V) (h:H):RetV (app esz elem x y h):=by
 refine .both ?_
 show RetG (fun k:V×H→Bool=>onSrc esz y h _)
 rcases ret_onSrc esz y h with e | ⟨n,s,e⟩
 ·exact .inl fun k=>e _
 ·have:∀ (A:(V×H→Bool)→(n:Nat)→(Nat→Arr→Arr)→Bool),RetG (fun k=>A k n s)→RetG (fun k=>onSrc esz y h (A k)):=fun A hA=>by
   have e2:(fun k=>onSrc esz y h (A k))=fun k=>A k n s:=by funext k;exact e _
   rw [e2];exact hA
  refine this _ (.bs (.onSl (.k _) fun _ _ _ _ _=>.k _) (.onSl (.both (.both (.k _))) fun id off len ver es=>.both (.onBk fun c size bver frz el ex own=>.both (.both (.both (.bs (.both (.k _)) (.both (.both (.k _)))))))))
theorem ret_st (one:Bool) (n:Nat) (x y:V) (h:H):RetV (st one n x y h):=
 .onP fun id off lim ver=>.onBk fun c size bver frz elem ex own=>.both (.both (.both (.both
  (RetG.bind (F:=layV one y n off c) (f:=fun c' (k:V×H→Bool)=>k (V.u,⟨h.next,hset id (.bk c' size bver frz elem ex own) h.tr⟩)) (ret_layV _ _ _ _ _) fun c'=>.k _))))
theorem ret_usS (e:Nat) (x y:V) (h:H):RetV (usS e x y h):=
 .onW fun m=>.both (.bs (.bs (.k _) (.onP fun _ _ _ _=>.k _)) (.onP fun id off lim ver=>.onBk fun c size bver frz elem ex own=>.both (.both (.both (.both
  (RetG.bind (F:=packA c (m-bias) off) (f:=fun r (k:V×H→Bool)=>k (.s (m-bias) r,⟨h.next,hset id (.bk c size bver frz elem ex false) h.tr⟩)) (ret_packA c _ off) fun r=>.k _))))))
theorem ret_cvS (x:V) (h:H):RetV (cvS x h):=.onSl .no fun id off len ver es=>.both (.onBk fun c size bver frz elem ex own=>.both (.both (.k _)))
theorem ret_itN (x:V) (h:H):RetV (itN x h):=.onP fun id off lim ver=>.both (.both (.onIt fun l n pos=>.both (.bs (.k _) (.bs (.k _) (.both (.k _))))))
theorem ret_mpI (x y z:V) (h:H):RetV (mpI x y z h):=.onMap .no fun id=>.onS fun l n=>.onMp fun kv=>RetG.fndK (yes:=fun _ _=>false) (no:=fun k:V×H→Bool=>k (V.u,_)) (fun _=>.no) (.k _) kv
theorem ret_fop {cf:CallF} (hcf:CallRet cf) (o:Op) (h:H):RetV (fop P cf q o h):=by
 unfold RetV fop
 split
 ·split
  ·exact .bi fun a b=>ret_st _ _ _ _ _
  ·exact .no
 ·split
  ·exact hcf _ _ _
  ·exact .no
 ·split
  ·exact .un fun a=>.onFn fun f b c=>hcf _ _ _
  ·exact .no
 ·split
  ·unfold appOp
   split
   ·split
    ·split
     ·split
      ·split
       ·split
        ·exact .bi fun a b=>ret_app _ _ _ _ _
        ·exact .no
       ·exact .no
      ·exact .no
     ·split
      ·split
       ·split
        ·exact .bi fun a b=>ret_app _ _ _ _ _
        ·exact .no
       ·exact .no
      ·exact .no
     ·exact .no
    ·exact .no
   ·exact .no
  ·exact .no
 ·exact .un fun a=>ret_itN _ _
 ·split
  ·split
   ·exact .un fun a=>.bi fun b c=>ret_mpI _ _ _ _
   ·exact .no
  ·exact .no
 ·split
  ·split
   ·split
    ·exact .un fun a=>ret_cvS _ _
    ·exact .no
   ·exact .no
  ·exact .no
 ·split
  ·split
   ·split
    ·exact .bi fun a b=>ret_usS _ _ _ _
    ·exact .no
   ·exact .no
  ·exact .no
 ·exact .no
theorem ret_vop {cf:CallF} (hcf:CallRet cf) (o:Op) (h:H):RetV (vop P cf q o h):=by
 unfold RetV vop
 split
 ·exact RetG.bind (F:=fun k=>pop P q o k) (f:=fun v (k:V×H→Bool)=>k (v,h)) (ret_pop o) fun v=>.k _
 ·exact RetG.bind (F:=fun k=>lop P q o h k) (f:=fun v (k:V×H→Bool)=>k (v,h)) (ret_lop o h) fun v=>.k _
 ·refine .both ?_
  rcases ret_aop (P:=P) (q:=q) o h.next with e | ⟨v,b,e⟩
  ·exact .inl fun k=>e _ _
  ·exact .inr ⟨(v,_),fun k=>e _ _⟩
 ·exact ret_fop hcf o h
theorem ret_guardT {x:V} {h:H} {f:KV→Bool} (hf:RetV f):RetV (guardT x h f):=by
 cases x with
 | t b=>cases b with
  | true=>exact hf
  | false=>exact .k _
 | x g a b=>cases g <;> first | exact .no | exact .k _
 | _=>exact .no
theorem ret_guardF {x:V} {h:H} {f:KV→Bool} (hf:RetV f):RetV (guardF x h f):=by
 cases x with
 | t b=>cases b with
  | false=>exact hf
  | true=>exact .k _
 | x g a b=>cases g <;> first | exact .no | exact .k _
 | _=>exact .no
theorem ret_goR {cf:CallF} (hcf:CallRet cf) (ops:Array Oper) (i:Nat) (ρ:TL) (e:L8) (h:H):RetV (goR P G cf N ops i ρ e h):=by
 unfold RetV goR
 split
 ·exact .no
 ·split
  ·exact ret_vop hcf _ _
  ·split
   ·split
    ·split
     ·split
      ·exact ret_guardT (ret_vop hcf _ _)
      ·exact ret_guardF (ret_vop hcf _ _)
     ·exact .no
    ·exact .no
   ·exact .no
theorem ret_put {α:Type} {d:Option Tmp} {v:V} {ρ:TL} {e:L8} (hN:N.l.length≤64) {f:TL→L8→(α→Bool)→Bool} (h:∀ ρ e,RetG (f ρ e)):RetG (fun k=>put N d v ρ e fun ρ' e'=>f ρ' e' k):=by
 unfold put
 split
 ·exact h _ _
 ·split
  ·split
   ·rename_i i hi
    have:=idx_lt _ _ _ hi
    have e2:∀ g:L8→(α→Bool)→Bool,(fun k:α→Bool=>putL i v e fun e'=>g e' k)=fun k=>g (updL i v e) k:=fun g=>by
     funext k;exact putL_eq _ (by omega) _ _ _
    rw [e2];exact h _ _
   ·exact h _ _
  ·exact .no
def RetT (F:KT→Bool):Prop:=RetG (fun k:TL×L8×H→Bool=>F fun ρ e h=>k (ρ,e,h))
def RetX (F:KX→Bool):Prop:=RetG (fun k:X×L8×H→Bool=>F fun x e h=>k (x,e,h))
theorem ret_runR {cf:CallF} (hcf:CallRet cf) (hN:N.l.length≤64) (ops:Array Oper):∀ (l:List Nat) (ρ:TL) (e:L8) (h:H),RetT (runR P G cf N ops l ρ e h)
 | [],ρ,e,h=>.k _
 | i::r,ρ,e,h=>RetG.bind (F:=fun k:V×H→Bool=>goR P G cf N ops i ρ e h fun v h'=>k (v,h'))
   (f:=fun x (k:TL×L8×H→Bool)=>put N (dstR ops i) x.1 ρ e fun ρ' e'=>runR P G cf N ops r ρ' e' x.2 fun ρ e h=>k (ρ,e,h)) (ret_goR hcf ops i ρ e h)
   fun x=>ret_put hN fun ρ' e'=>ret_runR hcf hN ops r ρ' e' x.2
theorem ret_seqM {a b:M} (ha:∀ e h,RetX (a e h)) (hb:∀ e h,RetX (b e h)) (e:L8) (h:H):RetX (seqM a b e h):=
 RetG.bind (F:=fun k:X×L8×H→Bool=>a e h fun x e h=>k (x,e,h))
  (f:=fun y (k:X×L8×H→Bool)=>X.rec (motive:=fun _=>Bool) (b y.2.1 y.2.2 fun x e h=>k (x,e,h)) (fun i=>k (.x i,y.2.1,y.2.2)) (k (.r,y.2.1,y.2.2)) y.1) (ha e h) fun y=>by
   obtain ⟨x,e',h'⟩:=y
   cases x
   ·exact hb _ _
   ·exact .k _
   ·exact .k _
theorem ret_blockM {i:Nat} {a:M} (ha:∀ e h,RetX (a e h)) (e:L8) (h:H):RetX (blockM i a e h):=
 RetG.bind (F:=fun k:X×L8×H→Bool=>a e h fun x e h=>k (x,e,h)) (f:=fun y (k:X×L8×H→Bool)=>k (unX i y.1,y.2.1,y.2.2)) (ha e h) fun y=>.k _
theorem ret_loopM {a:M} (ha:∀ e h,RetX (a e h)):∀ (n:Nat) (e:L8) (h:H),RetX (loopM n a e h)
 | 0,e,h=>.no
 | n+1,e,h=>RetG.bind (F:=fun k:X×L8×H→Bool=>a e h fun x e h=>k (x,e,h))
  (f:=fun y (k:X×L8×H→Bool)=>X.rec (motive:=fun _=>Bool) (loopM n a y.2.1 y.2.2 fun x e h=>k (x,e,h)) (fun i=>k (.x i,y.2.1,y.2.2)) (k (.r,y.2.1,y.2.2)) y.1) (ha e h) fun y=>by
   obtain ⟨x,e',h'⟩:=y
   cases x
   ·exact ret_loopM ha n _ _
   ·exact .k _
   ·exact .k _
theorem ret_vopD {cf:CallF} (hcf:CallRet cf) (id:Nat) (o:Op) (h:H):RetV (vopD P cf q id o h):=by
 unfold RetV vopD
 split
 ·exact RetG.bind (F:=fun k=>pop P q o k) (f:=fun v (k:V×H→Bool)=>k (v,h)) (ret_pop o) fun v=>.k _
 ·exact RetG.bind (F:=fun k=>lop P q o h k) (f:=fun v (k:V×H→Bool)=>k (v,h)) (ret_lop o h) fun v=>.k _
 ·rcases ret_aop (P:=P) (q:=q) o id with e | ⟨v,b,e⟩
  ·exact .inl fun k=>e _ _
  ·exact .inr ⟨(v,_),fun k=>e _ _⟩
 ·exact ret_fop hcf o h
theorem ret_goD {cf:CallF} (hcf:CallRet cf) (ops:Array Oper) (id i:Nat) (ρ:TL) (e:L8) (h:H):RetV (goD P G cf N ops id i ρ e h):=by
 unfold RetV goD
 split
 ·exact .no
 ·split
  ·exact ret_vopD hcf _ _ _
  ·split
   ·split
    ·split
     ·split
      ·exact ret_guardT (ret_vopD hcf _ _ _)
      ·exact ret_guardF (ret_vopD hcf _ _ _)
     ·exact .no
    ·exact .no
   ·exact .no
theorem ret_chksD {cf:CallF} (hcf:CallRet cf) (ops:Array Oper) (ρ:TL) (e:L8) (h:H):∀ c:List Nat,(∀ k,chksD P G cf N ops c ρ e h k=false)∨∀ k,chksD P G cf N ops c ρ e h k=k
 | []=>.inr fun _=>rfl
 | j::r=>by
  unfold chksD
  split
  ·rename_i d hd
   rcases RetV.iff.1 (ret_goD (P:=P) (G:=G) (N:=N) hcf ops 0 j ρ e h) with e1 | ⟨v,h',e1⟩
   ·exact .inl fun k=>e1 _
   ·rcases ret_chksD hcf ops ρ e h r with e2 | e2
    ·exact .inl fun k=>by rw [e1,e2];cases eqV v (getT N d ρ e) <;> rfl
    ·cases e3:eqV v (getT N d ρ e) with
     | false=>exact .inl fun k=>by rw [e1,e3];rfl
     | true=>exact .inr fun k=>by rw [e1,e3,e2];rfl
  ·exact .inl fun _=>rfl
theorem own_cases (ops:Array Oper) (b:Nat) (x:Od) (ρ:TL) (e:L8):(∀ k,ownD P G N ops b x ρ e k=false)∨(∀ k,ownD P G N ops b x ρ e k=k):=by
 unfold ownD
 split
 ·exact .inr fun _=>rfl
 ·split
  ·split
   ·split
    ·rename_i g _
     cases g with
     | p id off lim ver=>
      cases h:Nat.beq id (Nat.add b _) with
      | false=>exact .inl fun k=>by show both (Nat.beq id (Nat.add b _)) k=false;rw [h];rfl
      | true=>exact .inr fun k=>by show both (Nat.beq id (Nat.add b _)) k=k;rw [h];rfl
     | _=>exact .inl fun _=>rfl
    ·exact .inl fun _=>rfl
   ·exact .inr fun _=>rfl
  ·exact .inr fun _=>rfl
theorem ret_runD {cf:CallF} (hcf:CallRet cf) (hN:N.l.length≤64) (ops:Array Oper) (b:Nat):∀ (l:List Od) (ρ:TL) (e:L8) (h:H),RetT (runD P G cf N ops b l ρ e h)
 | [],ρ,e,h=>.k _
 | i::r,ρ,e,h=>by
  have old:RetG (fun K:TL×L8×H→Bool=>goD P G cf N ops (Nat.add b i.r) i.i ρ e h fun v h'=>put N (dstR ops i.i) v ρ e fun ρ' e'=>chksD P G cf N ops i.c ρ' e' h' (runD P G cf N ops b r ρ' e' h' fun ρ e h=>K (ρ,e,h))):=
   RetG.bind (F:=fun k:V×H→Bool=>goD P G cf N ops (Nat.add b i.r) i.i ρ e h fun v h'=>k (v,h'))
   (f:=fun x (k:TL×L8×H→Bool)=>put N (dstR ops i.i) x.1 ρ e fun ρ' e'=>chksD P G cf N ops i.c ρ' e' x.2 (runD P G cf N ops b r ρ' e' x.2 fun ρ e h=>k (ρ,e,h))) (ret_goD hcf ops _ i.i ρ e h)
   fun x=>ret_put hN fun ρ' e'=>by
    rcases ret_chksD (P:=P) (G:=G) (N:=N) hcf ops ρ' e' x.2 i.c with e1 | e1
    ·exact .inl fun k=>e1 _
    ·rcases ret_runD hcf hN ops b r ρ' e' x.2 with e2 | ⟨a,e2⟩
     ·exact .inl fun k=>(e1 _).trans (e2 k)
     ·exact .inr ⟨a,fun k=>(e1 _).trans (e2 k)⟩
  rcases own_cases (P:=P) (G:=G) (N:=N) ops b i ρ e with n | n
  ·exact .inl fun k=>n _
  ·rcases old with o | ⟨a,o⟩
   ·exact .inl fun k=>(n _).trans (o k)
   ·exact .inr ⟨a,fun k=>(n _).trans (o k)⟩
theorem ret_regR {cf:CallF} (hcf:CallRet cf) (hN:N.l.length≤64) {c:Code} {f:TL→L8→H→KT→Bool} (hf:regR P G cf N c=some f) (ρ:TL) (e:L8) (h:H):RetT (f ρ e h):=by
 cases c <;> try (simp [regR] at hf;done)
 rename_i i ops d
 cases d
 ·simp only [regR,Option.some.injEq] at hf
  subst hf
  exact ret_runR hcf hN ops _ ρ e h
 ·simp only [regR] at hf
  split at hf
  ·split at hf
   ·simp only [Option.some.injEq] at hf
    subst hf
    exact .both (ret_runD hcf hN ops _ _ ρ e _)
   ·simp at hf
  ·simp at hf
theorem ret_exec {cf:CallF} (hcf:CallRet cf) (hN:N.l.length≤64) (lf:Nat):∀ (c:Code) (ρ:TL) (e:L8) (h:H),RetX (exec P G cf lf N c ρ e h)
 | .skip,ρ,e,h=>.k _
 | .region i ops d,ρ,e,h=>by
  rw [exec_region]
  cases hf:regR P G cf N (.region i ops d) with
  | some f=>
   exact RetG.bind (F:=fun k:TL×L8×H→Bool=>f ρ e h fun ρ e h=>k (ρ,e,h)) (f:=fun y (k:X×L8×H→Bool)=>k (.n,y.2.1,y.2.2)) (ret_regR hcf hN hf ρ e h) fun y=>.k _
  | none=>exact .no
 | .seq a b,ρ,e,h=>by
  rw [exec_seq]
  cases hf:regR P G cf N a with
  | some f=>
   exact RetG.bind (F:=fun k:TL×L8×H→Bool=>f ρ e h fun ρ e h=>k (ρ,e,h)) (f:=fun y (k:X×L8×H→Bool)=>exec P G cf lf N b y.1 y.2.1 y.2.2 fun x e h=>k (x,e,h)) (ret_regR hcf hN hf ρ e h) fun y=>ret_exec hcf hN lf b _ _ _
  | none=>exact ret_seqM (ret_exec hcf hN lf a ρ) (ret_exec hcf hN lf b .n) e h
 | .cond c a b,ρ,e,h=>by
  rw [exec_cond]
  unfold RetX
  dsimp only
  split
  ·rename_i x hx
   cases x with
   | t t=>cases t with
    | true=>exact ret_exec hcf hN lf a ρ e h
    | false=>exact ret_exec hcf hN lf b ρ e h
   | _=>exact .no
  ·exact .no
 | .block i a,ρ,e,h=>ret_blockM (ret_exec hcf hN lf a ρ) e h
 | .loop a,ρ,e,h=>ret_loopM (ret_exec hcf hN lf a .n) lf e h
 | .exit i,ρ,e,h=>.k _
 | .ret,ρ,e,h=>.k _
 | .rangeFunc ..,ρ,e,h=>.no
 | .scope _,ρ,e,h=>.no
 | .label _,ρ,e,h=>.no
 | .goto _,ρ,e,h=>.no
 | .refuse _,ρ,e,h=>.no
theorem ret_ldV (t:TypeId) (a:V) (h:H):RetG (ldV P t a h):=by
 unfold ldV
 split
 ·exact .onP fun id off lim ver=>.onBk fun c _ bver _ _ _ _=>.both (.both (.k _))
 ·exact .onP fun id off lim ver=>.onBk fun c _ bver _ _ _ _=>.both (.both (.k _))
theorem ret_resL:∀ {l:List ResultVar} {q:QF},resL P N l=some q→∀ e h,RetG (q e h)
 | [],q,hq,e,h=>by simp only [resL,Option.some.injEq] at hq;subst hq;exact .k _
 | .tmp t::r,q,hq,e,h=>by
  simp only [resL] at hq
  split at hq
  ·split at hq
   ·rename_i q' hq'
    simp only [Option.some.injEq] at hq;subst hq
    exact RetG.bind (F:=q' e h) (f:=fun l (k:V→Bool)=>k (.x .cons (getT N t .n e) l)) (ret_resL hq' e h) fun l=>.k _
   ·simp at hq
  ·simp at hq
 | .cell c t::r,q,hq,e,h=>by
  simp only [resL] at hq
  split at hq
  ·split at hq
   ·rename_i q' hq'
    simp only [Option.some.injEq] at hq;subst hq
    exact RetG.bind (F:=ldV P t (getT N c .n e) h) (f:=fun v (k:V→Bool)=>q' e h fun l=>k (.x .cons v l)) (ret_ldV t _ h) fun v=>
     RetG.bind (F:=q' e h) (f:=fun l (k:V→Bool)=>k (.x .cons v l)) (ret_resL hq' e h) fun l=>.k _
   ·simp at hq
  ·simp at hq
theorem ret_resE {l:List ResultVar} {q:QF} (hq:resE P N l=some q) (e:L8) (h:H):RetG (q e h):=by
 unfold resE at hq
 split at hq
 ·split at hq
  ·simp only [Option.some.injEq] at hq;subst hq;exact .k _
  ·simp at hq
 ·split at hq
  ·simp only [Option.some.injEq] at hq;subst hq;exact ret_ldV _ _ _
  ·simp at hq
 ·split at hq
  ·rename_i q' hq'
   simp only [Option.some.injEq] at hq;subst hq
   exact RetG.bind (F:=q' e h) (f:=fun l (k:V→Bool)=>k (.x .tup l V.nil)) (ret_resL hq' e h) fun l=>.k _
  ·simp at hq
theorem ret_finK {q:QF} (hq:∀ e h,RetG (q e h)) (x:X) (e:L8) (h:H):RetG (fun k:V×H→Bool=>finK q (fun v h'=>k (v,h')) x e h):=by
 have:RetG (fun k:V×H→Bool=>q e h fun v=>k (v,h)):=RetG.bind (F:=q e h) (f:=fun v (k:V×H→Bool)=>k (v,h)) (hq e h) fun v=>.k _
 cases x
 ·exact this
 ·exact .no
 ·exact this
theorem ret_argsK {α:Type}:∀ (n i:Nat) (ρ:TL) (e:L8) (l:V) {f:TL→L8→(α→Bool)→Bool},(∀ ρ e,RetG (f ρ e))→RetG (fun k=>argsK N n i ρ e l fun ρ' e'=>f ρ' e' k)
 | 0,i,ρ,e,l,f,h=>.onNil (h _ _)
 | n+1,i,ρ,e,l,f,h=>.onCons fun a r=>by
  split
  ·exact ret_argsK n _ _ _ _ h
  ·exact ret_argsK n _ _ _ _ h
theorem ret_fnF {LF:Nat→List Nat} {OF:Nat→Nat→Option (Nat×List Od)} {cf:CallF} {lf:Nat} (hcf:CallRet cf):CallRet (fnF P G LF OF cf lf):=by
 intro f l h
 unfold RetV fnF
 cases hf:P.funcs[f]? with
 | none=>exact .no
 | some fn=>
  dsimp only
  by_cases h1:(fn.name == "runtime.NumGoroutine")=true
  ·rw [if_pos h1];exact .no
  ·rw [if_neg h1]
   by_cases hc:(LF f).length≤64∧fn.params.size+fn.nfree≤fn.ntmps
   ·rw [if_pos hc]
    cases hb:fn.body with
    | none=>exact .no
    | some c=>
     cases hq:resE P ⟨fn.ntmps,LF f,OF f⟩ fn.results.toList with
     | none=>exact .no
     | some q=>
      exact ret_argsK _ _ _ _ _ (f:=fun ρ e (k:V×H→Bool)=>exec P G cf lf _ c ρ e h fun x e' h'=>finK q (fun v h'=>k (v,h')) x e' h') fun ρ e=>
       RetG.bind (F:=fun k:X×L8×H→Bool=>exec P G cf lf _ c ρ e h fun x e h=>k (x,e,h)) (f:=fun y (k:V×H→Bool)=>finK q (fun v h'=>k (v,h')) y.1 y.2.1 y.2.2) (ret_exec hcf hc.1 lf c ρ e h) fun y=>by
        exact ret_finK (ret_resE hq) y.1 y.2.1 y.2.2
   ·rw [if_neg hc];exact .no
end Go.Bvm
set_option linter.unusedVariables false
namespace Go.Bvm
def cl (i:Nat):Nat:=i
theorem cl_id {i:Nat} (h:0≤i):cl i=i:=rfl
theorem hget_cl (i:Nat) (t:T6):hget i t=hget (cl i) t:=rfl
theorem hget_set (i j:Nat) (b:Blk) (t:T6):hget i (hset j b t)=if cl i=cl j then b else hget i t:=hget_hset i j b t (Nat.zero_le _) (Nat.zero_le _)
theorem n8_ext {α:Type} {x y:N8 α} (h:∀ d,d<8→sel8 d x=sel8 d y):x=y:=by
 have h0:x.c0=y.c0:=h 0 (by omega)
 have h1:x.c1=y.c1:=h 1 (by omega)
 have h2:x.c2=y.c2:=h 2 (by omega)
 have h3:x.c3=y.c3:=h 3 (by omega)
 have h4:x.c4=y.c4:=h 4 (by omega)
 have h5:x.c5=y.c5:=h 5 (by omega)
 have h6:x.c6=y.c6:=h 6 (by omega)
 have h7:x.c7=y.c7:=h 7 (by omega)
 cases x;cases y;simp only at h0 h1 h2 h3 h4 h5 h6 h7
 subst h0 h1 h2 h3 h4 h5 h6 h7;rfl
theorem t6a_ext {s t:T6a} (h:∀ i,i<262144→hgeta i s=hgeta i t):s=t:=by
 refine n8_ext fun a ha=>n8_ext fun b hb=>n8_ext fun c hc=>n8_ext fun d hd=>n8_ext fun e he=>n8_ext fun f hf=>?_
 have:=h (a*32768+b*4096+c*512+d*64+e*8+f) (by omega)
 rw [hgeta_eq,hgeta_eq] at this
 rw [show (a*32768+b*4096+c*512+d*64+e*8+f) / 32768=a from by omega,show (a*32768+b*4096+c*512+d*64+e*8+f) / 4096 % 8=b from by omega,show (a*32768+b*4096+c*512+d*64+e*8+f) / 512 % 8=c from by omega,
  show (a*32768+b*4096+c*512+d*64+e*8+f) / 64 % 8=d from by omega,show (a*32768+b*4096+c*512+d*64+e*8+f) / 8 % 8=e from by omega,show (a*32768+b*4096+c*512+d*64+e*8+f) % 8=f from by omega] at this
 exact this
theorem t6_ext {s t:T6} (h:∀ i,0≤i→hget i s=hget i t):s=t:=by
 have e1:s.a=t.a:=t6a_ext fun i hi=>by have:=h i (Nat.zero_le _);rw [hget_lo hi,hget_lo hi] at this;exact this
 have e2:s.f=t.f:=funext fun i=>by have:=h (i+262144) (Nat.zero_le _);rw [hget_hi,hget_hi] at this;exact this
 cases s;cases t;simp only at e1 e2;subst e1 e2;rfl
theorem hset_comm {i j:Nat} (h:cl i≠cl j) (b c:Blk) (t:T6):hset i b (hset j c t)=hset j c (hset i b t):=by
 refine t6_ext fun k hk=>?_
 rw [hget_set,hget_set,hget_set,hget_set]
 by_cases h1:cl k=cl i
 ·rw [if_pos h1,if_neg (by omega),if_pos h1]
 ·rw [if_neg h1,if_neg h1]
theorem l8_ext {e f:L8} (h:∀ i,i<64→getL i e=getL i f):e=f:=by
 refine n8_ext fun a ha=>n8_ext fun b hb=>?_
 have:=h (a*8+b) (by omega)
 unfold getL at this
 rw [show (a*8+b) % 8=b from by omega,show (a*8+b) / 8=a from by omega] at this
 exact this
theorem updL_comm {i j:Nat} (hi:i<64) (hj:j<64) (h:i≠j) (v u:V) (e:L8):updL i v (updL j u e)=updL j u (updL i v e):=by
 refine l8_ext fun k hk=>?_
 rw [getL_updL _ _ _ _ hk hi,getL_updL _ _ _ _ hk hj,getL_updL _ _ _ _ hk hj,getL_updL _ _ _ _ hk hi]
 by_cases h1:k=i
 ·rw [if_pos h1,if_neg (by omega),if_pos h1]
 ·rw [if_neg h1,if_neg h1]
noncomputable def H.ins (h:H) (r:Nat) (b:Blk):H:=⟨h.next,hset r b h.tr⟩
structure Kept (r:Nat) (h:H):Prop where
 lt:0≤r
 next:r<h.next
 nb:hget r h.tr=.nb
def FrmAt {α:Type} (r:Nat) (F:H→(α→H→Bool)→Bool) (h:H):Prop:=
 (∀ k,F h k=false)∨∃ a h1,(∀ k,F h k=k a h1)∧Kept r h1∧∀ b k,F (h.ins r b) k=k a (h1.ins r b)
def FrmG {α:Type} (r:Nat) (F:H→(α→H→Bool)→Bool):Prop:=∀ h,Kept r h→FrmAt r F h
section
variable {α β:Type} {r:Nat} {h:H}
theorem FrmAt.no:FrmAt r (fun (_:H) (_:α→H→Bool)=>false) h:=.inl fun _=>rfl
theorem FrmG.no:FrmG r (fun (_:H) (_:α→H→Bool)=>false):=fun h _=>.no
theorem FrmAt.k (hk:Kept r h) (a:α):FrmAt r (fun (h:H) (k:α→H→Bool)=>k a h) h:=.inr ⟨a,h,fun _=>rfl,hk,fun _ _=>rfl⟩
theorem FrmG.k (a:α):FrmG r (fun (h:H) (k:α→H→Bool)=>k a h):=fun h hk=>.k hk a
theorem FrmAt.pure {G:(α→Bool)→Bool} (hG:RetG G) (hk:Kept r h):FrmAt r (fun (h:H) (k:α→H→Bool)=>G fun a=>k a h) h:=by
 rcases hG with e | ⟨a,e⟩
 ·exact .inl fun k=>e _
 ·exact .inr ⟨a,h,fun k=>e _,hk,fun b k=>e _⟩
theorem FrmG.pure {G:(α→Bool)→Bool} (hG:RetG G):FrmG r (fun (h:H) (k:α→H→Bool)=>G fun a=>k a h):=fun h hk=>.pure hG hk
theorem FrmAt.bind {F:H→(β→H→Bool)→Bool} {f:β→H→(α→H→Bool)→Bool} (hF:FrmAt r F h) (hf:∀ b h,Kept r h→FrmAt r (f b) h):FrmAt r (fun h k=>F h fun b h'=>f b h' k) h:=by
 rcases hF with e | ⟨a,h1,e,k1,e2⟩
 ·exact .inl fun k=>e _
 ·rcases hf a h1 k1 with e3 | ⟨c,h2,e3,k2,e4⟩
  ·exact .inl fun k=>(e _).trans (e3 k)
  ·exact .inr ⟨c,h2,fun k=>(e _).trans (e3 k),k2,fun b k=>(e2 b _).trans (e4 b k)⟩
theorem FrmG.bind {F:H→(β→H→Bool)→Bool} {f:β→H→(α→H→Bool)→Bool} (hF:FrmG r F) (hf:∀ b,FrmG r (f b)):FrmG r (fun h k=>F h fun b h'=>f b h' k):=
 fun h hk=>.bind (hF h hk) fun b h hk=>hf b h hk
theorem FrmAt.both {c:H→Bool} {F:H→(α→H→Bool)→Bool} (hc:∀ b,c (h.ins r b)=c h) (hF:c h=true→FrmAt r F h):FrmAt r (fun h k=>both (c h) (F h k)) h:=by
 cases e:c h with
 | false=>exact .inl fun k=>by show Bvm.both (c h) _=false;rw [e];rfl
 | true=>
  rcases hF e with e1 | ⟨a,h1,e1,k1,e2⟩
  ·exact .inl fun k=>by show Bvm.both (c h) _=false;rw [e];exact e1 k
  ·exact .inr ⟨a,h1,fun k=>by show Bvm.both (c h) _=_;rw [e];exact e1 k,k1,fun b k=>by show Bvm.both (c (h.ins r b)) _=_;rw [hc,e];exact e2 b k⟩
theorem FrmAt.bs {c:Bool} {F F':H→(α→H→Bool)→Bool} (hF:FrmAt r F h) (hF':FrmAt r F' h):FrmAt r (fun h k=>bs c (F h k) (F' h k)) h:=by
 cases c
 ·exact hF'
 ·exact hF
theorem FrmAt.onP {v:V} {f:Nat→Nat→Nat→Nat→H→(α→H→Bool)→Bool} (hf:∀ a b c d,FrmAt r (f a b c d) h):FrmAt r (fun h k=>onP v fun a b c d=>f a b c d h k) h:=by
 cases v <;> first | exact .no | exact hf _ _ _ _
theorem FrmAt.onS {v:V} {f:Nat→Nat→H→(α→H→Bool)→Bool} (hf:∀ a b,FrmAt r (f a b) h):FrmAt r (fun h k=>onS v fun a b=>f a b h k) h:=by
 cases v <;> first | exact .no | exact hf _ _
theorem FrmAt.onSl {v:V} {g:H→(α→H→Bool)→Bool} {f:Nat→Nat→Nat→Nat→Nat→H→(α→H→Bool)→Bool} (hn:FrmAt r g h) (hf:∀ a b c d e,FrmAt r (f a b c d e) h):FrmAt r (fun h k=>onSl v (g h k) fun a b c d e=>f a b c d e h k) h:=by
 cases v with
 | sl a b c d e=>exact hf _ _ _ _ _
 | x t a b=>cases t <;> first | exact .no | exact hn
 | _=>exact .no
theorem FrmAt.onW {v:V} {f:Nat→H→(α→H→Bool)→Bool} (hf:∀ a,FrmAt r (f a) h):FrmAt r (fun h k=>onW v fun a=>f a h k) h:=by
 cases v <;> first | exact .no | exact hf _
theorem FrmAt.onFn {v:V} {f:Nat→V→V→H→(α→H→Bool)→Bool} (hf:∀ a b c,FrmAt r (f a b c) h):FrmAt r (fun h k=>onFn v fun a b c=>f a b c h k) h:=by
 cases v with
 | x t a b=>cases t <;> first | exact .no | exact hf _ _ _
 | _=>exact .no
theorem FrmAt.un {q:Operand→Option V} {x:Operand} {f:V→H→(α→H→Bool)→Bool} (hf:∀ a,FrmAt r (f a) h):FrmAt r (fun h k=>un q x fun a=>f a h k) h:=by
 unfold Bvm.un
 cases q x
 ·exact .no
 ·exact hf _
theorem FrmAt.bi {q:Operand→Option V} {x y:Operand} {f:V→V→H→(α→H→Bool)→Bool} (hf:∀ a b,FrmAt r (f a b) h):FrmAt r (fun h k=>bi q x y fun a b=>f a b h k) h:=by
 unfold Bvm.bi
 cases q x <;> cases q y <;> first | exact .no | exact hf _ _
theorem Kept.ne {id:Nat} (hk:Kept r h) (hn:hget id h.tr≠.nb):cl id≠cl r:=fun e=>hn (by rw [hget_cl,e,← hget_cl];exact hk.nb)
theorem Kept.ins_get {id:Nat} (hn:cl id≠cl r) (b:Blk):hget id (h.ins r b).tr=hget id h.tr:=by
 show hget id (hset r b h.tr)=_
 rw [hget_set,if_neg hn]
theorem FrmAt.onBk {id:Nat} {f:Arr→Nat→Nat→Nat→Nat→Bool→Bool→H→(α→H→Bool)→Bool} (hk:Kept r h) (hf:∀ a b c d e g i,cl id≠cl r→FrmAt r (f a b c d e g i) h):FrmAt r (fun h k=>onBk (hget id h.tr) fun a b c d e g i=>f a b c d e g i h k) h:=by
 cases e:hget id h.tr with
 | bk a b c d e1 g i=>
  have hne:=hk.ne (id:=id) (by rw [e];simp)
  rcases hf a b c d e1 g i hne with e2 | ⟨u,h1,e2,k1,e3⟩
  ·exact .inl fun k=>by dsimp only;rw [e];exact e2 k
  ·exact .inr ⟨u,h1,fun k=>by dsimp only;rw [e];exact e2 k,k1,fun b' k=>by dsimp only;rw [Kept.ins_get hne,e];exact e3 b' k⟩
 | nb=>exact .inl fun k=>by dsimp only;rw [e];rfl
 | mp _=>exact .inl fun k=>by dsimp only;rw [e];rfl
 | pin _ _ _=>exact .inl fun k=>by dsimp only;rw [e];rfl
 | it _ _ _=>exact .inl fun k=>by dsimp only;rw [e];rfl
theorem FrmAt.onIt {id:Nat} {f:Nat→Nat→Nat→H→(α→H→Bool)→Bool} (hk:Kept r h) (hf:∀ a b c,cl id≠cl r→FrmAt r (f a b c) h):FrmAt r (fun h k=>Bvm.onIt (hget id h.tr) fun a b c=>f a b c h k) h:=by
 cases e:hget id h.tr with
 | it a b c=>
  have hne:=hk.ne (id:=id) (by rw [e];simp)
  rcases hf a b c hne with e2 | ⟨u,h1,e2,k1,e3⟩
  ·exact .inl fun k=>by dsimp only;rw [e];exact e2 k
  ·exact .inr ⟨u,h1,fun k=>by dsimp only;rw [e];exact e2 k,k1,fun b' k=>by dsimp only;rw [Kept.ins_get hne,e];exact e3 b' k⟩
 | nb=>exact .inl fun k=>by dsimp only;rw [e];rfl
 | mp _=>exact .inl fun k=>by dsimp only;rw [e];rfl
 | pin _ _ _=>exact .inl fun k=>by dsimp only;rw [e];rfl
 | bk _ _ _ _ _ _ _=>exact .inl fun k=>by dsimp only;rw [e];rfl
theorem FrmAt.onMp {id:Nat} {f:V→H→(α→H→Bool)→Bool} (hk:Kept r h) (hf:∀ a,cl id≠cl r→FrmAt r (f a) h):FrmAt r (fun h k=>Bvm.onMp (hget id h.tr) fun a=>f a h k) h:=by
 cases e:hget id h.tr with
 | mp a=>
  have hne:=hk.ne (id:=id) (by rw [e];simp)
  rcases hf a hne with e2 | ⟨u,h1,e2,k1,e3⟩
  ·exact .inl fun k=>by dsimp only;rw [e];exact e2 k
  ·exact .inr ⟨u,h1,fun k=>by dsimp only;rw [e];exact e2 k,k1,fun b' k=>by dsimp only;rw [Kept.ins_get hne,e];exact e3 b' k⟩
 | nb=>exact .inl fun k=>by dsimp only;rw [e];rfl
 | it _ _ _=>exact .inl fun k=>by dsimp only;rw [e];rfl
 | pin _ _ _=>exact .inl fun k=>by dsimp only;rw [e];rfl
 | bk _ _ _ _ _ _ _=>exact .inl fun k=>by dsimp only;rw [e];rfl
theorem FrmAt.onMap {v:V} {g:H→(α→H→Bool)→Bool} {f:Nat→H→(α→H→Bool)→Bool} (hn:FrmAt r g h) (hf:∀ a,FrmAt r (f a) h):FrmAt r (fun h k=>Bvm.onMap v (g h k) fun a=>f a h k) h:=by
 cases v with
 | x t a b=>cases t <;> first | exact .no | exact hn | exact hf _
 | _=>exact .no
theorem FrmAt.fndK {l n:Nat} {yes:V→H→(α→H→Bool)→Bool} {no:H→(α→H→Bool)→Bool} (hy:∀ v,FrmAt r (yes v) h) (hn:FrmAt r no h):∀ kv:V,FrmAt r (fun h k=>Bvm.fndK l n kv (fun v=>yes v h k) (no h k)) h:=by
 intro kv
 induction kv with
 | x g e t _ ih=>
  cases g <;> first | exact .no | exact hn | skip
  show FrmAt r (fun h k=>Bvm.onCons e fun key val=>Bvm.onS key fun l' n'=>Bvm.bs (seqB l n l' n') (yes val h k) (Bvm.fndK l n t (fun v=>yes v h k) (no h k))) h
  cases e with
  | x g key val=>
   cases g <;> first | exact .no | skip
   cases key <;> first | exact .no | skip
   rename_i l' n' _
   show FrmAt r (fun h k=>Bvm.bs (seqB l n l' n') (yes val h k) (Bvm.fndK l n t (fun v=>yes v h k) (no h k))) h
   cases seqB l n l' n'
   ·exact ih
   ·exact hy _
  | _=>exact .no
 | _=>exact .no
theorem FrmAt.wr {id:Nat} (hk:Kept r h) (hne:cl id≠cl r) (a:α) (b:Blk):FrmAt r (fun (h:H) (k:α→H→Bool)=>k a ⟨h.next,hset id b h.tr⟩) h:=by
 refine .inr ⟨a,_,fun k=>rfl,⟨hk.lt,hk.next,?_⟩,fun b' k=>?_⟩
 ·rw [hget_set,if_neg (fun e=>hne e.symm)];exact hk.nb
 ·show k a ⟨h.next,hset id b (hset r b' h.tr)⟩=k a ⟨h.next,hset r b' (hset id b h.tr)⟩
  rw [hset_comm hne]
end
variable {P:Program} {G:Nat→Bool} {N:Fr} {q:Operand→Option V} {r:Nat}
theorem frm_lop (o:Op):FrmG r (fun h (k:V→H→Bool)=>lop P q o h fun v=>k v h):=by
 intro h hk
 unfold lop
 split
 ·split
  ·refine .un fun a=>?_
   split
   ·exact .onP fun id off lim ver=>.onBk hk fun c s bver f e x o hne=>.both (fun _=>rfl) fun _=>.both (fun _=>rfl) fun _=>.k hk _
   ·exact .onP fun id off lim ver=>.onBk hk fun c s bver f e x o hne=>.both (fun _=>rfl) fun _=>.both (fun _=>rfl) fun _=>.k hk _
  ·exact .no
 ·split
  ·split
   ·refine .un fun a=>?_
    exact .onSl (.k hk _) fun id off len ver es=>.both (fun _=>rfl) fun _=>.onBk hk fun c s bver f e x o hne=>.both (fun _=>rfl) fun _=>
     .pure (G:=fun k=>packA c len off fun r=>k (V.s len r)) (RetG.bind (F:=packA c len off) (f:=fun r (k:V→Bool)=>k (.s len r)) (ret_packA c len off) fun r=>.k _) hk
   ·exact .no
  ·split
   ·exact .no
   ·exact .un fun a=>.bs (.k hk _) (.onP fun id off lim ver=>.onBk hk fun c size bver frz elem ex own hne=>.both (fun _=>rfl) fun _=>.both (fun _=>rfl) fun _=>.k hk _)
  ·split
   ·split
    ·exact .no
    ·exact .un fun a=>.bs (.k hk _) (.onP fun id off lim ver=>.onBk hk fun c size bver frz elem ex own hne=>.both (fun _=>rfl) fun _=>.both (fun _=>rfl) fun _=>.both (fun _=>rfl) fun _=>.both (c:=fun _=>ex) (fun _=>rfl) fun _=>.both (fun _=>rfl) fun _=>.k hk _)
   ·exact .no
  ·exact .no
 ·split
  ·split
   ·split
    ·split
     ·exact .bi fun u v=>.onS fun l n=>.onMap (.k hk _) fun id=>.onMp hk fun kv hne=>FrmAt.fndK (yes:=fun v h k=>k (mpR _ v true) h) (no:=fun h k=>k (mpR _ _ false) h) (fun v=>.k hk _) (.k hk _) kv
     ·exact .no
    ·exact .no
   ·exact .no
  ·exact .no
 ·exact .no
theorem frm_aop (o:Op) {id:Nat} (hne:cl id≠cl r):FrmG r (fun h (k:V→H→Bool)=>aop P q o id h k):=by
 intro h hk
 rcases ret_aop (P:=P) (q:=q) o id with e | ⟨v,b,e⟩
 ·exact .inl fun k=>e _ _
 ·have e2:(fun (h:H) (k:V→H→Bool)=>aop P q o id h k)=fun h k=>k v ⟨h.next,hset id b h.tr⟩:=by funext h k;exact e h k
  rw [e2];exact .wr hk hne v b
theorem frm_onSrc (esz:Nat) (v:V) {h:H} (hk:Kept r h):FrmAt r (fun h (k:(Nat×(Nat→Arr→Arr))→H→Bool)=>onSrc esz v h fun n s=>k (n,s) h) h:=by
 cases v with
 | s l n=>exact .both (c:=fun _=>Nat.beq esz 1) (F:=fun h k=>k (l,fun j c=>abytes l n j c) h) (fun _=>rfl) fun _=>.k hk _
 | sl id off len ver es=>
  exact .both (c:=fun _=>Nat.beq es esz) (F:=fun h k=>onBk (hget id h.tr) fun c size bver _ _ _ _=>both (Nat.beq ver bver) (k (len,fun j c'=>acopy c (len*esz) off j c') h)) (fun _=>rfl) fun _=>
   .onBk hk fun c s bver f e x o hne=>.both (fun _=>rfl) fun _=>.k hk _
 | x g a b=>cases g <;> first | exact .inl fun _=>rfl | exact .k hk ((0:Nat),fun (_:Nat) (c:Arr)=>c)
 | _=>exact .inl fun _=>rfl
theorem frm_app (esz elem:Nat) (x y:V):FrmG r (fun h (k:V→H→Bool)=>app esz elem x y h k):=by
 intro h hk
 refine .both (c:=fun _=>Nat.ble 1 esz) (fun _=>rfl) fun _=>?_
 refine .bind (F:=fun h (k:(Nat×(Nat→Arr→Arr))→H→Bool)=>onSrc esz y h fun n s=>k (n,s) h)
  (f:=fun z h (k:V→H→Bool)=>bs (Nat.beq z.1 0) (onSl x (k x h) (fun _ _ _ _ _=>k x h))
  (onSl x
   (both (Nat.ble (z.1*esz) 17179869184) (both (Nat.ble 0 (h.next+1)) (k (.sl h.next 0 z.1 0 esz) ⟨h.next+1,hset h.next (.bk (z.2 0 (fresh (z.1*esz))) (z.1*esz) 0 0 elem false true) h.tr⟩)))
   fun id off len ver es=>both (Nat.beq es esz) (onBk (hget id h.tr) fun c size bver frz el ex own=>
    both own (both (Nat.beq ver bver) (both (both (Nat.beq el elem) (Nat.ble frz (off+len*esz)))
     (bs (both (Nat.beq off 0) (Nat.beq (len*esz) size))
      (both (Nat.ble (size+z.1*esz) 17179869184) (k (.sl id 0 (len+z.1) (ver+1) esz) ⟨h.next,hset id (.bk (z.2 size (room (size+z.1*esz) c)) (size+z.1*esz) (ver+1) frz elem false true) h.tr⟩))
      (both (Nat.ble (len*esz+z.1*esz) 17179869184) (both (Nat.ble 0 (h.next+1)) (k (.sl h.next 0 (len+z.1) 0 esz)
       ⟨h.next+1,hset h.next (.bk (z.2 (len*esz) (acopy c (len*esz) off 0 (fresh (len*esz+z.1*esz)))) (len*esz+z.1*esz) 0 frz elem false true) (hset id .nb h.tr)⟩)))))))))
  (frm_onSrc esz y hk) ?_
 intro z h hk
 have hn:∀ h:H,Kept r h→Nat.ble 0 (h.next+1)=true→cl h.next≠cl r:=fun h hk e=>by
  have e1:=ble_true e
  have:=hk.next;have:=hk.lt
  rw [cl_id (by omega),cl_id (by omega)];omega
 refine .bs (.onSl (.k hk _) fun _ _ _ _ _=>.k hk _) (.onSl ?_ ?_)
 ·refine .both (c:=fun _=>Nat.ble (z.1*esz) 17179869184) (fun _=>rfl) fun _=>.both (c:=fun h=>Nat.ble 0 (h.next+1)) (fun _=>rfl) fun e=>?_
  have hne:=hn h hk e
  refine .inr ⟨_,_,fun k=>rfl,⟨hk.lt,by have:=hk.next;show r<h.next+1;omega,?_⟩,fun b k=>?_⟩
  ·show hget r (hset h.next _ h.tr)=_
   rw [hget_set,if_neg (fun e=>hne e.symm)];exact hk.nb
  ·show k _ (⟨h.next+1,hset h.next _ (hset r b h.tr)⟩ : H)=k _ (⟨h.next+1,hset r b (hset h.next _ h.tr)⟩ : H)
   rw [hset_comm hne];rfl
 ·intro id off len ver es
  refine .both (c:=fun _=>Nat.beq es esz) (fun _=>rfl) fun _=>.onBk hk fun c size bver frz el ex own hid=>?_
  refine .both (c:=fun _=>own) (fun _=>rfl) fun _=>.both (c:=fun _=>Nat.beq ver bver) (fun _=>rfl) fun _=>.both (c:=fun _=>both (Nat.beq el elem) (Nat.ble frz (off+len*esz))) (fun _=>rfl) fun _=>.bs ?_ ?_
  ·exact .both (c:=fun _=>Nat.ble (size+z.1*esz) 17179869184) (fun _=>rfl) fun _=>.wr hk hid _ _
  ·refine .both (c:=fun _=>Nat.ble (len*esz+z.1*esz) 17179869184) (fun _=>rfl) fun _=>.both (c:=fun h=>Nat.ble 0 (h.next+1)) (fun _=>rfl) fun e=>?_
   have hne:=hn h hk e
   refine .inr ⟨_,_,fun k=>rfl,⟨hk.lt,by have:=hk.next;show r<h.next+1;omega,?_⟩,fun b k=>?_⟩
   ·show hget r (hset h.next _ (hset id .nb h.tr))=_
    rw [hget_set,if_neg (fun e=>hne e.symm),hget_set,if_neg (fun e=>hid e.symm)];exact hk.nb
   ·show k _ (⟨h.next+1,hset h.next _ (hset id .nb (hset r b h.tr))⟩ : H)=k _ (⟨h.next+1,hset r b (hset h.next _ (hset id .nb h.tr))⟩ : H)
    rw [hset_comm hid,hset_comm hne];rfl
theorem frm_st (one:Bool) (n:Nat) (x y:V):FrmG r (fun h (k:V→H→Bool)=>st one n x y h k):=by
 intro h hk
 refine .onP fun id off lim ver=>.onBk hk fun c size bver frz elem ex own hne=>?_
 refine .both (c:=fun _=>own) (fun _=>rfl) fun _=>.both (c:=fun _=>Nat.beq ver bver) (fun _=>rfl) fun _=>.both (c:=fun _=>Nat.ble (Nat.add off n) lim) (fun _=>rfl) fun _=>.both (c:=fun _=>Nat.ble frz off) (fun _=>rfl) fun _=>?_
 exact .bind (F:=fun h (k:Arr→H→Bool)=>layV one y n off c fun c'=>k c' h) (f:=fun c' h (k:V→H→Bool)=>k V.u ⟨h.next,hset id (.bk c' size bver frz elem ex own) h.tr⟩)
  (.pure (G:=layV one y n off c) (ret_layV _ _ _ _ _) hk) fun c' h hk=>.wr hk hne _ _
theorem frm_usS (e:Nat) (x y:V):FrmG r (fun h (k:V→H→Bool)=>usS e x y h k):=by
 intro h hk
 refine .onW fun m=>.both (c:=fun _=>Nat.ble bias m) (fun _=>rfl) fun _=>.bs (.bs (.k hk _) (.onP fun _ _ _ _=>.k hk _)) (.onP fun id off lim ver=>.onBk hk fun c size bver frz elem ex own hne=>?_)
 refine .both (c:=fun _=>own) (fun _=>rfl) fun _=>.both (c:=fun _=>Nat.beq ver bver) (fun _=>rfl) fun _=>.both (c:=fun _=>Nat.ble (off+(m-bias)) lim) (fun _=>rfl) fun _=>.both (c:=fun _=>both (Nat.beq elem e) (Nat.ble (m-bias) 1000000000)) (fun _=>rfl) fun _=>?_
 exact .bind (F:=fun h (k:Nat→H→Bool)=>packA c (m-bias) off fun r=>k r h) (f:=fun z h (k:V→H→Bool)=>k (.s (m-bias) z) ⟨h.next,hset id (.bk c size bver frz elem ex false) h.tr⟩)
  (.pure (G:=packA c (m-bias) off) (ret_packA _ _ _) hk) fun z h hk=>.wr hk hne _ _
theorem frm_cvS (x:V):FrmG r (fun h (k:V→H→Bool)=>cvS x h k):=by
 intro h hk
 exact .onSl .no fun id off len ver es=>.both (c:=fun _=>Nat.ble 1 len) (fun _=>rfl) fun _=>.onBk hk fun c size bver frz elem ex own hne=>.both (c:=fun _=>own) (fun _=>rfl) fun _=>.both (c:=fun _=>Nat.beq ver bver) (fun _=>rfl) fun _=>.wr hk hne _ _
theorem frm_itN (x:V):FrmG r (fun h (k:V→H→Bool)=>itN x h k):=by
 intro h hk
 refine .onP fun id off lim ver=>.both (c:=fun _=>Nat.beq off 0) (fun _=>rfl) fun _=>.both (c:=fun _=>Nat.beq ver 0) (fun _=>rfl) fun _=>.onIt hk fun l n pos hne=>.both (c:=fun _=>Nat.ble l 1000000000) (fun _=>rfl) fun _=>.bs (.k hk _) (.bs (.wr hk hne _ _) (.both (c:=fun _=>Nat.ble (pos+(decH (Nat.sub l pos) n).2) l) (fun _=>rfl) fun _=>.wr hk hne _ _))
theorem frm_mpI (x y z:V):FrmG r (fun h (k:V→H→Bool)=>mpI x y z h k):=by
 intro h hk
 exact .onMap .no fun id=>.onS fun l n=>.onMp hk fun kv hne=>FrmAt.fndK (yes:=fun _ _ _=>false) (no:=fun h k=>k V.u ⟨h.next,hset id (.mp (vapp kv (.x .cons (.x .cons y z) V.nil))) h.tr⟩) (fun _=>.no) (.wr hk hne _ _) kv
def CallFrm (r:Nat) (cf:CallF):Prop:=∀ f l,FrmG r (fun h (k:V→H→Bool)=>cf f l h k)
theorem frm_fop {cf:CallF} (hcf:CallFrm r cf) (o:Op):FrmG r (fun h (k:V→H→Bool)=>fop P cf q o h k):=by
 intro h hk
 unfold fop
 split
 ·split
  ·exact .bi fun a b=>frm_st _ _ _ _ h hk
  ·exact .no
 ·split
  ·exact hcf _ _ h hk
  ·exact .no
 ·split
  ·exact .un fun a=>.onFn fun f b c=>hcf _ _ h hk
  ·exact .no
 ·split
  ·unfold appOp
   split
   ·split
    ·split
     ·split
      ·split
       ·split
        ·exact .bi fun a b=>frm_app _ _ _ _ h hk
        ·exact .no
       ·exact .no
      ·exact .no
     ·split
      ·split
       ·split
        ·exact .bi fun a b=>frm_app _ _ _ _ h hk
        ·exact .no
       ·exact .no
      ·exact .no
     ·exact .no
    ·exact .no
   ·exact .no
  ·exact .no
 ·exact .un fun a=>frm_itN _ h hk
 ·split
  ·split
   ·exact .un fun a=>.bi fun b c=>frm_mpI _ _ _ h hk
   ·exact .no
  ·exact .no
 ·split
  ·split
   ·split
    ·exact .un fun a=>frm_cvS _ h hk
    ·exact .no
   ·exact .no
  ·exact .no
 ·split
  ·split
   ·split
    ·exact .bi fun a b=>frm_usS _ _ _ h hk
    ·exact .no
   ·exact .no
  ·exact .no
 ·exact .no
theorem Kept.resv {h:H} {n:Nat} (hk:Kept r h):Kept r ⟨Nat.add h.next n,h.tr⟩:=⟨hk.lt,by have:=hk.next;show r<h.next+n;omega,hk.nb⟩
theorem frm_resv {α:Type} {n:Nat} {f:Nat→H→(α→H→Bool)→Bool} (hf:∀ id h,Kept r h→(∀ i,i<n→cl (id+i)≠cl r)→FrmAt r (f id) h):FrmG r (fun h (k:α→H→Bool)=>resv n h fun id h'=>f id h' k):=by
 intro h hk
 refine .both (c:=fun h=>Nat.ble 0 (Nat.add h.next n)) (F:=fun h k=>f h.next ⟨Nat.add h.next n,h.tr⟩ k) (fun _=>rfl) fun e=>?_
 have e1:0≤h.next+n:=ble_true e
 have h1:=hk.next;have h2:=hk.lt
 rcases hf h.next ⟨Nat.add h.next n,h.tr⟩ hk.resv (fun i hi=>by rw [cl_id (by omega),cl_id (by omega)];omega) with e | ⟨a,h3,e,k3,e4⟩
 ·exact .inl e
 ·exact .inr ⟨a,h3,e,k3,e4⟩
theorem frm_vop {cf:CallF} (hcf:CallFrm r cf) (o:Op):FrmG r (fun h (k:V→H→Bool)=>vop P cf q o h k):=by
 unfold vop
 split
 ·exact .pure (G:=fun k=>pop P q o k) (ret_pop o)
 ·exact frm_lop o
 ·exact frm_resv (f:=fun id h k=>aop P q o id h k) fun id h hk hne=>frm_aop o (hne 0 (by omega)) h hk
 ·exact frm_fop hcf o
theorem frm_vopD {cf:CallF} (hcf:CallFrm r cf) (o:Op) {id:Nat} (hne:clOf P o=.a→cl id≠cl r):FrmG r (fun h (k:V→H→Bool)=>vopD P cf q id o h k):=by
 unfold vopD
 split
 ·exact .pure (G:=fun k=>pop P q o k) (ret_pop o)
 ·exact frm_lop o
 ·rename_i hc;exact frm_aop o (hne hc)
 ·exact frm_fop hcf o
theorem frm_guardT {x:V} {f:H→KV→Bool} (hf:FrmG r f):FrmG r (fun h (k:V→H→Bool)=>guardT x h (f h) k):=by
 cases x with
 | t b=>cases b with
  | true=>exact hf
  | false=>exact .k _
 | x g a b=>cases g <;> first | exact .no | exact .k _
 | _=>exact .no
theorem frm_guardF {x:V} {f:H→KV→Bool} (hf:FrmG r f):FrmG r (fun h (k:V→H→Bool)=>guardF x h (f h) k):=by
 cases x with
 | t b=>cases b with
  | false=>exact hf
  | true=>exact .k _
 | x g a b=>cases g <;> first | exact .no | exact .k _
 | _=>exact .no
theorem frm_goR {cf:CallF} (hcf:CallFrm r cf) (ops:Array Oper) (i:Nat) (ρ:TL) (e:L8):FrmG r (fun h (k:V→H→Bool)=>goR P G cf N ops i ρ e h k):=by
 unfold goR
 split
 ·exact .no
 ·split
  ·exact frm_vop hcf _
  ·split
   ·split
    ·split
     ·split
      ·exact frm_guardT (frm_vop hcf _)
      ·exact frm_guardF (frm_vop hcf _)
     ·exact .no
    ·exact .no
   ·exact .no
theorem frm_goD {cf:CallF} (hcf:CallFrm r cf) (ops:Array Oper) (id i:Nat) (hne:∀ o,ops[i]?=some o→clOf P o.op=.a→cl id≠cl r) (ρ:TL) (e:L8):FrmG r (fun h (k:V→H→Bool)=>goD P G cf N ops id i ρ e h k):=by
 unfold goD
 split
 ·exact .no
 ·rename_i o ho
  split
  ·exact frm_vopD hcf _ (hne o ho)
  ·split
   ·split
    ·split
     ·split
      ·exact frm_guardT (frm_vopD hcf _ (hne o ho))
      ·exact frm_guardF (frm_vopD hcf _ (hne o ho))
     ·exact .no
    ·exact .no
   ·exact .no
theorem frm_put {α:Type} {d:Option Tmp} {v:V} {ρ:TL} {e:L8} (hN:N.l.length≤64) {f:TL→L8→H→(α→H→Bool)→Bool} (hf:∀ ρ e,FrmG r (f ρ e)):FrmG r (fun h (k:α→H→Bool)=>put N d v ρ e fun ρ' e'=>f ρ' e' h k):=by
 unfold put
 split
 ·exact hf _ _
 ·split
  ·split
   ·rename_i i hi
    have:=idx_lt _ _ _ hi
    have e2:∀ g:L8→H→(α→H→Bool)→Bool,(fun (h:H) (k:α→H→Bool)=>putL i v e fun e'=>g e' h k)=fun h k=>g (updL i v e) h k:=fun g=>by
     funext h k;exact putL_eq _ (by omega) _ _ _
    rw [e2];exact hf _ _
   ·exact hf _ _
  ·exact .no
def FrmT (r:Nat) (F:H→KT→Bool):Prop:=FrmG r (fun h (k:TL×L8→H→Bool)=>F h fun ρ e h=>k (ρ,e) h)
def FrmX (r:Nat) (F:H→KX→Bool):Prop:=FrmG r (fun h (k:X×L8→H→Bool)=>F h fun x e h=>k (x,e) h)
theorem frm_runR {cf:CallF} (hcf:CallFrm r cf) (hN:N.l.length≤64) (ops:Array Oper):∀ (l:List Nat) (ρ:TL) (e:L8),FrmT r (fun h=>runR P G cf N ops l ρ e h)
 | [],ρ,e=>.k _
 | i::t,ρ,e=>FrmG.bind (F:=fun h (k:V→H→Bool)=>goR P G cf N ops i ρ e h k)
   (f:=fun v h (k:TL×L8→H→Bool)=>put N (dstR ops i) v ρ e fun ρ' e'=>runR P G cf N ops t ρ' e' h fun ρ e h=>k (ρ,e) h) (frm_goR hcf ops i ρ e)
   fun v=>frm_put hN fun ρ' e'=>frm_runR hcf hN ops t ρ' e'
theorem isL_of {c:Cl} (h:isL c=true):c=.l:=by cases c <;> first | rfl | exact Bool.noConfusion (show false=true from h)
theorem clD_of {ops:Array Oper} {i:Nat} {o:Oper} (h:ops[i]?=some o):clD P ops i=clOf P o.op:=by unfold clD;rw [h]
theorem frm_chksD {cf:CallF} (hcf:CallFrm r cf) (ops:Array Oper) (ρ:TL) (e:L8) {h:H} (hk:Kept r h):∀ c:List Nat,(c.all fun j=>isL (clD P ops j))=true→
  (∀ k,chksD P G cf N ops c ρ e h k=false)∨(∀ k,chksD P G cf N ops c ρ e h k=k)∧∀ b k,chksD P G cf N ops c ρ e (h.ins r b) k=k
 | [],_=>.inr ⟨fun _=>rfl,fun _ _=>rfl⟩
 | j::t,hc=>by
  rw [List.all_cons,Bool.and_eq_true] at hc
  unfold chksD
  split
  ·rename_i d hd
   rcases frm_goD (P:=P) (G:=G) (N:=N) hcf ops 0 j (fun o ho ha=>by have:=isL_of hc.1;rw [clD_of ho,ha] at this;simp at this) ρ e h hk with e1 | ⟨v,h',e1,_,e1'⟩
   ·exact .inl fun k=>e1 _
   ·rcases frm_chksD hcf ops ρ e hk t hc.2 with e2 | ⟨e2,e2'⟩
    ·exact .inl fun k=>(e1 _).trans (by rw [e2];cases eqV v (getT N d ρ e) <;> rfl)
    ·cases e3:eqV v (getT N d ρ e) with
     | false=>exact .inl fun k=>(e1 _).trans (by rw [e3];rfl)
     | true=>exact .inr ⟨fun k=>(e1 _).trans (by rw [e3,e2];rfl),fun b k=>(e1' b _).trans (by rw [e3,e2'];rfl)⟩
  ·exact .inl fun _=>rfl
theorem frm_runD {cf:CallF} (hcf:CallFrm r cf) (hN:N.l.length≤64) (ops:Array Oper) (b n:Nat) (hb:∀ i,i<n→cl (b+i)≠cl r):∀ (l:List Od),l.all (okD P ops n)=true→∀ (ρ:TL) (e:L8),FrmT r (fun h=>runD P G cf N ops b l ρ e h)
 | [],_,ρ,e=>.k _
 | x::t,hl,ρ,e=>by
   rw [List.all_cons,Bool.and_eq_true] at hl
   have hx:=hl.1
   unfold okD at hx
   rw [Bool.and_eq_true] at hx
   have old:FrmG r (fun h (K:TL×L8→H→Bool)=>goD P G cf N ops (Nat.add b x.r) x.i ρ e h fun v h'=>put N (dstR ops x.i) v ρ e fun ρ' e'=>chksD P G cf N ops x.c ρ' e' h' (runD P G cf N ops b t ρ' e' h' fun ρ e h=>K (ρ,e) h)):=FrmG.bind (F:=fun h (k:V→H→Bool)=>goD P G cf N ops (Nat.add b x.r) x.i ρ e h k)
    (f:=fun v h (k:TL×L8→H→Bool)=>put N (dstR ops x.i) v ρ e fun ρ' e'=>chksD P G cf N ops x.c ρ' e' h (runD P G cf N ops b t ρ' e' h fun ρ e h=>k (ρ,e) h))
    (frm_goD hcf ops _ x.i (fun o ho hc=>by
     have:=hx.1
     rw [clD_of ho] at this;simp only [hc] at this
     exact hb _ (ble_true this)) ρ e)
    fun v=>frm_put hN fun ρ' e' h hk=>by
     rcases frm_chksD (P:=P) (G:=G) (N:=N) hcf ops ρ' e' hk x.c hx.2 with e1 | ⟨e1,e1'⟩
     ·exact .inl fun k=>e1 _
     ·rcases frm_runD hcf hN ops b n hb t hl.2 ρ' e' h hk with e2 | ⟨a,h1,e2,k1,e2'⟩
      ·exact .inl fun k=>(e1 _).trans (e2 k)
      ·exact .inr ⟨a,h1,fun k=>(e1 _).trans (e2 k),k1,fun b k=>(e1' b _).trans (e2' b k)⟩
   rcases own_cases (P:=P) (G:=G) (N:=N) ops b x ρ e with n | n
   ·exact fun h hk=>.inl fun k=>n _
   ·intro h hk
    rcases old h hk with o | ⟨a,h1,o,k1,o'⟩
    ·exact .inl fun k=>(n _).trans (o k)
    ·exact .inr ⟨a,h1,fun k=>(n _).trans (o k),k1,fun b k=>(n _).trans (o' b k)⟩
theorem frm_seqM {a b:M} (ha:∀ e,FrmX r (a e)) (hb:∀ e,FrmX r (b e)) (e:L8):FrmX r (seqM a b e):=
 FrmG.bind (F:=fun h (k:X×L8→H→Bool)=>a e h fun x e h=>k (x,e) h)
  (f:=fun y h (k:X×L8→H→Bool)=>X.rec (motive:=fun _=>Bool) (b y.2 h fun x e h=>k (x,e) h) (fun i=>k (.x i,y.2) h) (k (.r,y.2) h) y.1) (ha e) fun y=>by
   obtain ⟨x,e'⟩:=y
   cases x
   ·exact hb _
   ·exact .k _
   ·exact .k _
theorem frm_blockM {i:Nat} {a:M} (ha:∀ e,FrmX r (a e)) (e:L8):FrmX r (blockM i a e):=
 FrmG.bind (F:=fun h (k:X×L8→H→Bool)=>a e h fun x e h=>k (x,e) h) (f:=fun y h (k:X×L8→H→Bool)=>k (unX i y.1,y.2) h) (ha e) fun y=>.k _
theorem frm_loopM {a:M} (ha:∀ e,FrmX r (a e)):∀ (n:Nat) (e:L8),FrmX r (loopM n a e)
 | 0,e=>.no
 | n+1,e=>FrmG.bind (F:=fun h (k:X×L8→H→Bool)=>a e h fun x e h=>k (x,e) h)
  (f:=fun y h (k:X×L8→H→Bool)=>X.rec (motive:=fun _=>Bool) (loopM n a y.2 h fun x e h=>k (x,e) h) (fun i=>k (.x i,y.2) h) (k (.r,y.2) h) y.1) (ha e) fun y=>by
   obtain ⟨x,e'⟩:=y
   cases x
   ·exact frm_loopM ha n _
   ·exact .k _
   ·exact .k _
theorem frm_regR {cf:CallF} (hcf:CallFrm r cf) (hN:N.l.length≤64) {c:Code} {f:TL→L8→H→KT→Bool} (hf:regR P G cf N c=some f) (ρ:TL) (e:L8):FrmT r (f ρ e):=by
 cases c <;> try (simp [regR] at hf;done)
 rename_i i ops d
 cases d
 ·simp only [regR,Option.some.injEq] at hf
  subst hf
  exact frm_runR hcf hN ops _ ρ e
 ·simp only [regR] at hf
  split at hf
  ·split at hf
   ·rename_i n l ho hl
    simp only [Option.some.injEq] at hf
    subst hf
    exact frm_resv (f:=fun id h (k:TL×L8→H→Bool)=>runD P G cf N ops id l ρ e h fun ρ e h=>k (ρ,e) h) fun id h hk hne=>frm_runD hcf hN ops id n hne l hl ρ e h hk
   ·simp at hf
  ·simp at hf
theorem frm_exec {cf:CallF} (hcf:CallFrm r cf) (hN:N.l.length≤64) (lf:Nat):∀ (c:Code) (ρ:TL) (e:L8),FrmX r (exec P G cf lf N c ρ e)
 | .skip,ρ,e=>.k _
 | .region i ops d,ρ,e=>by
  rw [exec_region]
  cases hf:regR P G cf N (.region i ops d) with
  | some f=>
   exact FrmG.bind (F:=fun h (k:TL×L8→H→Bool)=>f ρ e h fun ρ e h=>k (ρ,e) h) (f:=fun y h (k:X×L8→H→Bool)=>k (.n,y.2) h) (frm_regR hcf hN hf ρ e) fun y=>.k _
  | none=>exact .no
 | .seq a b,ρ,e=>by
  rw [exec_seq]
  cases hf:regR P G cf N a with
  | some f=>
   exact FrmG.bind (F:=fun h (k:TL×L8→H→Bool)=>f ρ e h fun ρ e h=>k (ρ,e) h) (f:=fun y h (k:X×L8→H→Bool)=>exec P G cf lf N b y.1 y.2 h fun x e h=>k (x,e) h) (frm_regR hcf hN hf ρ e) fun y=>frm_exec hcf hN lf b y.1 y.2
  | none=>exact frm_seqM (frm_exec hcf hN lf a ρ) (frm_exec hcf hN lf b .n) e
 | .cond c a b,ρ,e=>by
  rw [exec_cond]
  unfold FrmX
  dsimp only
  split
  ·rename_i x hx
   cases x with
   | t t=>cases t with
    | true=>exact frm_exec hcf hN lf a ρ e
    | false=>exact frm_exec hcf hN lf b ρ e
   | _=>exact .no
  ·exact .no
 | .block i a,ρ,e=>frm_blockM (frm_exec hcf hN lf a ρ) e
 | .loop a,ρ,e=>frm_loopM (frm_exec hcf hN lf a .n) lf e
 | .exit i,ρ,e=>.k _
 | .ret,ρ,e=>.k _
 | .rangeFunc ..,ρ,e=>.no
 | .scope _,ρ,e=>.no
 | .label _,ρ,e=>.no
 | .goto _,ρ,e=>.no
 | .refuse _,ρ,e=>.no
theorem frm_ldV (t:TypeId) (a:V):FrmG r (fun h (k:V→H→Bool)=>ldV P t a h fun v=>k v h):=by
 intro h hk
 unfold ldV
 split
 ·exact .onP fun id off lim ver=>.onBk hk fun c s bver f e x o hne=>.both (fun _=>rfl) fun _=>.both (fun _=>rfl) fun _=>.k hk _
 ·exact .onP fun id off lim ver=>.onBk hk fun c s bver f e x o hne=>.both (fun _=>rfl) fun _=>.both (fun _=>rfl) fun _=>.k hk _
theorem frm_resL:∀ {l:List ResultVar} {q:QF},resL P N l=some q→∀ e,FrmG r (fun h (k:V→H→Bool)=>q e h fun v=>k v h)
 | [],q,hq,e=>by simp only [resL,Option.some.injEq] at hq;subst hq;exact .k _
 | .tmp t::rs,q,hq,e=>by
  simp only [resL] at hq
  split at hq
  ·split at hq
   ·rename_i q' hq'
    simp only [Option.some.injEq] at hq;subst hq
    exact FrmG.bind (F:=fun h (k:V→H→Bool)=>q' e h fun l=>k l h) (f:=fun l h (k:V→H→Bool)=>k (.x .cons (getT N t .n e) l) h) (frm_resL hq' e) fun l=>.k _
   ·simp at hq
  ·simp at hq
 | .cell c t::rs,q,hq,e=>by
  simp only [resL] at hq
  split at hq
  ·split at hq
   ·rename_i q' hq'
    simp only [Option.some.injEq] at hq;subst hq
    exact FrmG.bind (F:=fun h (k:V→H→Bool)=>ldV P t (getT N c .n e) h fun v=>k v h) (f:=fun v h (k:V→H→Bool)=>q' e h fun l=>k (.x .cons v l) h) (frm_ldV t _) fun v=>
     FrmG.bind (F:=fun h (k:V→H→Bool)=>q' e h fun l=>k l h) (f:=fun l h (k:V→H→Bool)=>k (.x .cons v l) h) (frm_resL hq' e) fun l=>.k _
   ·simp at hq
  ·simp at hq
theorem frm_resE {l:List ResultVar} {q:QF} (hq:resE P N l=some q) (e:L8):FrmG r (fun h (k:V→H→Bool)=>q e h fun v=>k v h):=by
 unfold resE at hq
 split at hq
 ·split at hq
  ·simp only [Option.some.injEq] at hq;subst hq;exact .k _
  ·simp at hq
 ·split at hq
  ·simp only [Option.some.injEq] at hq;subst hq;exact frm_ldV _ _
  ·simp at hq
 ·split at hq
  ·rename_i q' hq'
   simp only [Option.some.injEq] at hq;subst hq
   exact FrmG.bind (F:=fun h (k:V→H→Bool)=>q' e h fun l=>k l h) (f:=fun l h (k:V→H→Bool)=>k (.x .tup l V.nil) h) (frm_resL hq' e) fun l=>.k _
  ·simp at hq
theorem frm_finK {q:QF} (hq:∀ e,FrmG r (fun h (k:V→H→Bool)=>q e h fun v=>k v h)) (x:X) (e:L8):FrmG r (fun h (k:V→H→Bool)=>finK q k x e h):=by
 cases x
 ·exact hq e
 ·exact .no
 ·exact hq e
theorem frm_argsK {α:Type}:∀ (n i:Nat) (ρ:TL) (e:L8) (l:V) {f:TL→L8→H→(α→H→Bool)→Bool},(∀ ρ e,FrmG r (f ρ e))→FrmG r (fun h (k:α→H→Bool)=>argsK N n i ρ e l fun ρ' e'=>f ρ' e' h k)
 | 0,i,ρ,e,l,f,h=>by
  show FrmG r (fun h (k:α→H→Bool)=>onNil l (f ρ e h k))
  cases l with
  | x t a b=>cases t <;> first | exact .no | exact h _ _
  | _=>exact .no
 | n+1,i,ρ,e,l,f,h=>by
  cases l with
  | x t a b=>
   cases t <;> first | exact .no | skip
   show FrmG r (fun h (k:α→H→Bool)=>match idx N.l i with
    | some j=>argsK N n (i+1) (.c i a ρ) (updL j a e) b fun ρ' e'=>f ρ' e' h k
    | none=>argsK N n (i+1) (.c i a ρ) e b fun ρ' e'=>f ρ' e' h k)
   split
   ·exact frm_argsK n _ _ _ _ h
   ·exact frm_argsK n _ _ _ _ h
  | _=>exact .no
theorem frm_fnF {LF:Nat→List Nat} {OF:Nat→Nat→Option (Nat×List Od)} {cf:CallF} {lf:Nat} (hcf:CallFrm r cf):CallFrm r (fnF P G LF OF cf lf):=by
 intro f l
 unfold fnF
 cases hf:P.funcs[f]? with
 | none=>exact .no
 | some fn=>
  dsimp only
  by_cases h1:(fn.name == "runtime.NumGoroutine")=true
  ·rw [if_pos h1];exact .no
  ·rw [if_neg h1]
   by_cases hc:(LF f).length≤64∧fn.params.size+fn.nfree≤fn.ntmps
   ·rw [if_pos hc]
    cases hb:fn.body with
    | none=>exact .no
    | some c=>
     cases hq:resE P ⟨fn.ntmps,LF f,OF f⟩ fn.results.toList with
     | none=>exact .no
     | some q=>
      exact frm_argsK _ _ _ _ _ (f:=fun ρ e h (k:V→H→Bool)=>exec P G cf lf _ c ρ e h fun x e' h'=>finK q k x e' h') fun ρ e=>
       FrmG.bind (F:=fun h (k:X×L8→H→Bool)=>exec P G cf lf _ c ρ e h fun x e h=>k (x,e) h) (f:=fun y h (k:V→H→Bool)=>finK q k y.1 y.2 h) (frm_exec hcf hc.1 lf c ρ e) fun y=>by
        exact frm_finK (frm_resE hq) y.1 y.2
   ·rw [if_neg hc];exact .no
end Go.Bvm
set_option linter.unusedVariables false
namespace Go.Bvm
variable {P:Program} {G:Nat→Bool} {N:Fr} {cf:CallF} {ops:Array Oper} {b:Nat}
theorem eqV_true:∀ {x y:V},eqV x y=true→x=y:=by
 have nb:∀ {a b:Nat},Nat.beq a b=true→a=b:=fun h=>beq_true h
 intro x
 induction x with
 | w n=>intro y h;cases y <;> first | exact Bool.noConfusion (show false=true from h) | (have:=nb (show Nat.beq n _=true from h);subst this;rfl)
 | y n=>intro y h;cases y <;> first | exact Bool.noConfusion (show false=true from h) | (have:=nb (show Nat.beq n _=true from h);subst this;rfl)
 | t n=>
  intro y h;cases y <;> first | exact Bool.noConfusion (show false=true from h) | skip
  rename_i u;cases n <;> cases u <;> first | rfl | exact Bool.noConfusion (show false=true from h)
 | s l n=>
  intro y h;cases y <;> first | exact Bool.noConfusion (show false=true from h) | skip
  obtain ⟨h1,h2⟩:=both_true (show both _ _=true from h)
  rw [nb h1,nb h2]
 | p i o l v=>
  intro y h;cases y <;> first | exact Bool.noConfusion (show false=true from h) | skip
  obtain ⟨h1,h2⟩:=both_true (show both _ _=true from h)
  obtain ⟨h2,h3⟩:=both_true h2
  obtain ⟨h3,h4⟩:=both_true h3
  rw [nb h1,nb h2,nb h3,nb h4]
 | sl i o l v z=>
  intro y h;cases y with
  | sl=>
   obtain ⟨h1,h2⟩:=both_true (show both _ _=true from h)
   obtain ⟨h2,h3⟩:=both_true h2
   obtain ⟨h3,h4⟩:=both_true h3
   obtain ⟨h4,h5⟩:=both_true h4
   rw [nb h1,nb h2,nb h3,nb h4,nb h5]
  | x g a b=>cases g <;> exact Bool.noConfusion (show false=true from h)
  | _=>exact Bool.noConfusion (show false=true from h)
 | x g a b iha ihb=>
  intro y h;cases y <;> first | exact Bool.noConfusion (show false=true from h) | skip
  rename_i g' a' b'
  obtain ⟨h1,h2⟩:=both_true (show both _ _=true from h)
  obtain ⟨h2,h3⟩:=both_true h2
  rw [iha h2,ihb h3]
  have:g=g':=by
   obtain ⟨e1,e2⟩:=both_true h1
   obtain ⟨e2,e3⟩:=both_true e2
   obtain ⟨e3,e4⟩:=both_true e3
   have e1:=nb e1;have e2:=nb e2;have e3:=of_decide_eq_true e3;have e4:=of_decide_eq_true e4
   cases g <;> cases g' <;> first | rfl | (simp [tagC] at e1;done) | skip
   ·simp [tgK,tgN] at e3 e4;rw [e3,e4]
   ·simp [tagA] at e2;rw [e2]
   ·simp [tagA] at e2;rw [e2]
   ·simp [tagA] at e2;rw [e2]
  rw [this]
theorem parts_congr {q q':Operand→Option V} {place:Nat→Option (Nat×TypeId)}:∀ (ps:List (Nat×Operand)) (l:V),(∀ x,x∈ps.map (·.2)→q x=q' x)→parts P q place ps l=parts P q' place ps l
 | [],l,h=>rfl
 | (i,x)::r,l,h=>by
  funext k
  have h1:q x=q' x:=h x (by simp)
  have h2:∀ l,parts P q place r l=parts P q' place r l:=fun l=>parts_congr r l fun y hy=>h y (by simp at hy ⊢;exact .inr hy)
  show (match place i,q x with | some (off,t),some g=>if hasT P t then part off (oneT P t) (sizeT P t) g l fun l'=>parts P q place r l' k else false | _,_=>false) =
   (match place i,q' x with | some (off,t),some g=>if hasT P t then part off (oneT P t) (sizeT P t) g l fun l'=>parts P q' place r l' k else false | _,_=>false)
  simp only [h1,h2]
theorem oprs_congr {q q':Operand→Option V}:∀ (xs:List Operand),(∀ x,x∈xs→q x=q' x)→oprs q xs=oprs q' xs
 | [],h=>rfl
 | x::r,h=>by
  have h1:q x=q' x:=h x (by simp)
  have h2:oprs q r=oprs q' r:=oprs_congr r fun y hy=>h y (by simp [hy])
  show (match q x,oprs q r with | some a,some b=>some (V.x .cons a b) | _,_=>none)=(match q' x,oprs q' r with | some a,some b=>some (V.x .cons a b) | _,_=>none)
  rw [h1,h2]
theorem bdo_congr {q q':Operand→Option V} {x:Option Operand} {f:Option V→Bool} (h:∀ y,x=some y→q y=q' y):bdo q x f=bdo q' x f:=by
 unfold bdo
 cases x with
 | none=>rfl
 | some y=>dsimp only;rw [h y rfl]
theorem vopD_congr {q q':Operand→Option V} (id:Nat) (o:Op) (h:∀ x,x∈o.operands→q x=q' x):vopD P cf q id o=vopD P cf q' id o:=by
 funext hh k
 cases o with
 | call c=>
  obtain ⟨f,xs,ts⟩:=c
  have hm:∀ x,x∈xs→q x=q' x:=fun x hx=>h x (by simp only [Op.operands,Call.operands,Array.mem_append];exact .inr hx)
  have hxs:oprs q xs.toList=oprs q' xs.toList:=oprs_congr _ fun x hx=>hm x (by simpa using hx)
  have h1:∀ x y,xs.toList=[x,y]→q x=q' x∧q y=q' y:=fun x y e=>by
   have hx:xs=#[x,y]:=by apply Array.ext';simpa using e
   exact ⟨hm x (by simp [hx]),hm y (by simp [hx])⟩
  have h2:∀ x,xs.toList=[x]→q x=q' x:=fun x e=>by
   have hx:xs=#[x]:=by apply Array.ext';simpa using e
   exact hm x (by simp [hx])
  cases f with
  | value f=>
   have hf:q f=q' f:=h f (by simp only [Op.operands,Call.operands,Array.mem_append];exact .inl (by simp))
   cases f with
   | func f=>simp only [vopD,fop,hxs]
   | _=>simp only [vopD,fop,hxs,un,hf]
  | invoke r m=>simp only [vopD,fop]
  | builtin bi0=>
   cases bi0 <;> try (simp only [vopD,pop,fop];done)
   case append=>
    simp only [vopD,fop]
    split
    ·rename_i x y e
     simp only [appOp,bi,h1 x y e]
    ·rfl
   case unsafeString=>
    simp only [vopD,fop]
    split
    ·rename_i x y t u e _
     simp only [bi,h1 x y e]
    ·rfl
   all_goals
    simp only [vopD,pop]
    split <;> first | rfl | (rename_i e1 e;simp only [un,h2 _ e1];done) | (rename_i e1 e;simp only [bi,h1 _ _ e1];done) | (rename_i e;simp only [bi,h1 _ _ e];done) | (rename_i e;simp only [un,h2 _ e];done)
 | move x=>simp only [vopD,pop,un,h x (by simp [Op.operands])]
 | assign x=>simp only [vopD,pop,un,h x (by simp [Op.operands])]
 | pick c x y=>simp only [vopD,pop,un,bi,h c (by simp [Op.operands]),h x (by simp [Op.operands]),h y (by simp [Op.operands])]
 | load t x=>simp only [vopD,lop,un,h x (by simp [Op.operands])]
 | store t x y=>simp only [vopD,fop,bi,h x (by simp [Op.operands]),h y (by simp [Op.operands])]
 | nilCheck x=>simp only [vopD,pop,un,h x (by simp [Op.operands])]
 | binOp op t x y u=>simp only [vopD,pop,bi,h x (by simp [Op.operands]),h y (by simp [Op.operands])]
 | unOp op t x=>cases op <;> simp only [vopD,pop,un,h x (by simp [Op.operands])]
 | convert s t x=>simp only [vopD,pop,lop,aop,fop,un,h x (by simp [Op.operands])]
 | slice t x lo hi mx=>
  have hx:q x=q' x:=h x (by simp [Op.operands])
  have hl:∀ f,bdo q lo f=bdo q' lo f:=fun f=>bdo_congr fun y e=>h y (by simp [Op.operands,e])
  have hh:∀ f,bdo q hi f=bdo q' hi f:=fun f=>bdo_congr fun y e=>h y (by simp [Op.operands,e])
  cases mx with
  | some m=>simp only [vopD,pop]
  | none=>
   show (match P.underlying t with
    | some (.array n e)=>if hasT P e then bdo q lo fun l=>bdo q hi fun u=>un q x fun a=>sarr (sizeT P e) n l u a _ else false
    | some .string=>bdo q lo fun l=>bdo q hi fun u=>un q x fun a=>sstr l u a _
    | some (.slice e)=>if hasT P e then bdo q lo fun l=>bdo q hi fun u=>un q x fun a=>ssli (sizeT P e) l u a _ else false
    | _=>false)=(match P.underlying t with
    | some (.array n e)=>if hasT P e then bdo q' lo fun l=>bdo q' hi fun u=>un q' x fun a=>sarr (sizeT P e) n l u a _ else false
    | some .string=>bdo q' lo fun l=>bdo q' hi fun u=>un q' x fun a=>sstr l u a _
    | some (.slice e)=>if hasT P e then bdo q' lo fun l=>bdo q' hi fun u=>un q' x fun a=>ssli (sizeT P e) l u a _ else false
    | _=>false)
   have hu:∀ f,un q x f=un q' x f:=fun f=>by simp only [un,hx]
   split
   ·simp only [hl];congr 1;congr 1;funext l;rw [hh];congr 1;funext u;exact hu _
   ·rw [hl];congr 1;funext l;rw [hh];congr 1;funext u;exact hu _
   ·simp only [hl];congr 1;congr 1;funext l;rw [hh];congr 1;funext u;exact hu _
   ·rfl
 | fieldAddr s x f=>simp only [vopD,pop,un,h x (by simp [Op.operands])]
 | indexAddr t x i=>simp only [vopD,pop,bi,h x (by simp [Op.operands]),h i (by simp [Op.operands])]
 | index t x i=>simp only [vopD,pop,bi,h x (by simp [Op.operands]),h i (by simp [Op.operands])]
 | makeSlice t x y=>simp only [vopD,aop,bi,h x (by simp [Op.operands]),h y (by simp [Op.operands])]
 | field t x f=>simp only [vopD,pop,un,h x (by simp [Op.operands])]
 | build t ps=>
  have hp:∀ place l,parts P q place ps.toList l=parts P q' place ps.toList l:=fun place l=>parts_congr _ _ fun x hx=>h x (by simpa [Op.operands] using hx)
  simp only [vopD,pop,hp]
 | buildSlice t n ps=>
  have hp:∀ place l,parts P q place ps.toList l=parts P q' place ps.toList l:=fun place l=>parts_congr _ _ fun x hx=>h x (by simpa [Op.operands] using hx)
  simp only [vopD,aop,hp]
 | makeFunc f xs ys=>
  have h1:oprs q xs.toList=oprs q' xs.toList:=oprs_congr _ fun x hx=>h x (by simp [Op.operands] at hx ⊢;exact .inl hx)
  have h2:oprs q ys.toList=oprs q' ys.toList:=oprs_congr _ fun x hx=>h x (by simp [Op.operands] at hx ⊢;exact .inr hx)
  cases f <;> simp only [vopD,pop,h1,h2]
 | makeInterface t x=>simp only [vopD,pop,un,h x (by simp [Op.operands])]
 | extract x i=>simp only [vopD,pop,un,h x (by simp [Op.operands])]
 | box t x=>simp only [vopD,aop,un,h x (by simp [Op.operands])]
 | alloc t=>simp only [vopD,aop]
 | lookup t x i ok=>simp only [vopD,lop,bi,h x (by simp [Op.operands]),h i (by simp [Op.operands])]
 | range t x=>simp only [vopD,aop,un,h x (by simp [Op.operands])]
 | next x b=>cases b <;> simp only [vopD,fop,un,h x (by simp [Op.operands])]
 | makeMap t r=>cases r <;> simp only [vopD,aop]
 | insert t x y z=>simp only [vopD,fop,un,bi,h x (by simp [Op.operands]),h y (by simp [Op.operands]),h z (by simp [Op.operands])]
 | _=>simp only [vopD,pop]
def Go1 (P:Program) (G:Nat→Bool) (cf:CallF) (N:Fr) (ops:Array Oper) (id i:Nat) (ρ:TL) (e:L8) (h:H) (v:V) (h1:H):Prop:=∀ k,goD P G cf N ops id i ρ e h k=k v h1
def looks (ops:Array Oper) (i:Nat):List Nat:=match ops[i]? with
 | some o=>(o.op.operands.toList.filterMap fun | .tmp t=>some t | _=>none)++(match o.guard with | some (g,_)=>(dstR ops g).toList | none=>[])
 | none=>[]
def pρ (d:Option Tmp) (v:V) (ρ:TL):TL:=match d with | none=>ρ | some t=>.c t v ρ
noncomputable def pe (N:Fr) (d:Option Tmp) (v:V) (e:L8):L8:=match d with | none=>e | some t=>match idx N.l t with | some i=>updL i v e | none=>e
def okP (N:Fr) (d:Option Tmp):Prop:=∀ t,d=some t→t<N.n
theorem put_eq (hN:N.l.length≤64) {d:Option Tmp} (hd:okP N d) (v:V) (ρ:TL) (e:L8) (k:TL→L8→Bool):put N d v ρ e k=k (pρ d v ρ) (pe N d v e):=by
 cases d with
 | none=>rfl
 | some t=>
  unfold put pρ pe
  dsimp only
  rw [if_pos (hd t rfl)]
  cases hi:idx N.l t with
  | none=>rfl
  | some i=>exact putL_eq _ (by have:=idx_lt _ _ _ hi;omega) _ _ _
theorem put_ok {d:Option Tmp} {v:V} {ρ:TL} {e:L8} {k:TL→L8→Bool} (h:put N d v ρ e k=true):okP N d:=by
 intro t ht;subst ht
 unfold put at h
 dsimp only at h
 split at h
 ·assumption
 ·simp at h
theorem getT_put (hN:N.l.length≤64) {d:Option Tmp} {t:Nat} (h:d≠some t) (v:V) (ρ:TL) (e:L8):getT N t (pρ d v ρ) (pe N d v e)=getT N t ρ e:=by
 cases d with
 | none=>rfl
 | some u=>
  have hu:t≠u:=fun k=>h (by rw [k])
  unfold pρ pe
  dsimp only
  rw [show ∀ e,getT N t (.c u v ρ) e=if u=t then v else getT N t ρ e from fun _=>rfl,if_neg (fun k=>hu k.symm)]
  split
  ·rename_i i hi;exact getT_upd N u v i hN hi t e ρ hu
  ·rfl
theorem getT_put_same {t:Nat} (v:V) (ρ:TL) (e:L8):getT N t (pρ (some t) v ρ) e=v:=by
 show (if t=t then v else _)=v
 rw [if_pos rfl]
def Eqv (N:Fr) (ρ ρ':TL):Prop:=∀ t e,getT N t ρ e=getT N t ρ' e
theorem Eqv.refl (ρ:TL):Eqv N ρ ρ:=fun _ _=>rfl
theorem Eqv.put {ρ ρ':TL} (h:Eqv N ρ ρ') (d:Option Tmp) (v:V):Eqv N (pρ d v ρ) (pρ d v ρ'):=by
 intro t e
 cases d with
 | none=>exact h t e
 | some u=>show (if u=t then v else getT N t ρ e)=if u=t then v else getT N t ρ' e;rw [h t e]
theorem Eqv.swap {d d':Option Tmp} (h:∀ t,d=some t→d'≠some t) (v v':V) (ρ:TL):Eqv N (pρ d v (pρ d' v' ρ)) (pρ d' v' (pρ d v ρ)):=by
 intro t e
 cases d with
 | none=>rfl
 | some u=>
  cases d' with
  | none=>rfl
  | some u'=>
   have hne:u≠u':=fun k=>h u rfl (by rw [k])
   show (if u=t then v else if u'=t then v' else getT N t ρ e)=if u'=t then v' else if u=t then v else getT N t ρ e
   by_cases h1:u=t
   ·rw [if_pos h1,if_neg (fun k=>hne (h1.trans k.symm)),if_pos h1]
   ·rw [if_neg h1,if_neg h1]
theorem pe_swap (hN:N.l.length≤64) {d d':Option Tmp} (h:∀ t,d=some t→d'≠some t) (v v':V) (e:L8):pe N d v (pe N d' v' e)=pe N d' v' (pe N d v e):=by
 cases d with
 | none=>rfl
 | some u=>
  cases d' with
  | none=>rfl
  | some u'=>
   have hne:u≠u':=fun k=>h u rfl (by rw [k])
   unfold pe
   dsimp only
   cases h1:idx N.l u with
   | none=>rfl
   | some i=>
    cases h2:idx N.l u' with
    | none=>rfl
    | some j=>
     dsimp only
     exact updL_comm (by have:=idx_lt _ _ _ h1;omega) (by have:=idx_lt _ _ _ h2;omega) (fun k=>by subst k;exact hne (idx_inj _ _ _ _ h1 h2)) _ _ _
theorem goD_congr {i:Nat} {ρ ρ':TL} {e e':L8} (h:∀ t,t∈looks ops i→getT N t ρ e=getT N t ρ' e') (id:Nat):goD P G cf N ops id i ρ e=goD P G cf N ops id i ρ' e':=by
 funext hh k
 unfold goD
 unfold looks at h
 cases ho:ops[i]? with
 | none=>rfl
 | some o=>
  rw [ho] at h
  dsimp only at h ⊢
  have hv:vopD P cf (opr P G N ρ e) id o.op=vopD P cf (opr P G N ρ' e') id o.op:=vopD_congr id o.op fun x hx=>by
   cases x with
   | tmp t=>
    have:=h t (List.mem_append_left _ (List.mem_filterMap.2 ⟨.tmp t,by simpa using hx,rfl⟩))
    simp only [opr,this]
   | _=>rfl
  cases hg:o.guard with
  | none=>dsimp only;rw [hv]
  | some jb=>
   obtain ⟨j,b⟩:=jb
   dsimp only
   cases hq:ops[j]? with
   | none=>rfl
   | some r=>
    dsimp only
    cases hr:r.dst with
    | none=>rfl
    | some g=>
     dsimp only
     have hg:getT N g ρ e=getT N g ρ' e':=h g (List.mem_append_right _ (by rw [hg];dsimp only;unfold dstR;rw [hq];dsimp only;rw [hr];simp))
     rw [hv,hg]
theorem goD_eqv {ρ ρ':TL} (h:Eqv N ρ ρ') (id i:Nat) (e:L8):goD P G cf N ops id i ρ e=goD P G cf N ops id i ρ' e:=goD_congr (fun t _=>h t e) id
theorem goD_put (hN:N.l.length≤64) {i:Nat} {d:Option Tmp} (h:∀ t,d=some t→t∉looks ops i) (v:V) (ρ:TL) (e:L8) (id:Nat):goD P G cf N ops id i (pρ d v ρ) (pe N d v e)=goD P G cf N ops id i ρ e:=
 goD_congr (fun t ht=>getT_put hN (fun k=>h t k ht) v ρ e) id
theorem goD_id {i:Nat} (h:clD P ops i≠.a) (id id':Nat) (ρ:TL) (e:L8):goD P G cf N ops id i ρ e=goD P G cf N ops id' i ρ e:=by
 funext hh k
 unfold goD
 cases ho:ops[i]? with
 | none=>rfl
 | some o=>
  dsimp only
  have hv:vopD P cf (opr P G N ρ e) id o.op=vopD P cf (opr P G N ρ e) id' o.op:=by
   funext hh k
   rw [clD_of ho] at h
   unfold vopD
   cases hc:clOf P o.op <;> first | rfl | exact absurd hc h
  rw [hv]
theorem goD_cases {i:Nat} {ρ:TL} {e:L8} {id:Nat} {h:H} {v:V} {h1:H} (hg:Go1 P G cf N ops id i ρ e h v h1) :
  ∃ o,ops[i]?=some o∧((∀ h',Go1 P G cf N ops id i ρ e h' v h')∧h1=h∨(∀ h' k,goD P G cf N ops id i ρ e h' k=vopD P cf (opr P G N ρ e) id o.op h' k)):=by
 have no:∀ {F:KV→Bool},(∀ k,F k=false)→(∀ k:KV,F k=k v h1)→False:=fun a b=>by
  have:=(a fun _ _=>true).symm.trans (b fun _ _=>true);simp at this
 unfold Go1 goD at hg
 unfold Go1 goD
 cases ho:ops[i]? with
 | none=>rw [ho] at hg;exact (no (fun _=>rfl) hg).elim
 | some o=>
  refine ⟨o,rfl,?_⟩
  rw [ho] at hg
  dsimp only at hg ⊢
  cases hgd:o.guard with
  | none=>exact .inr fun _ _=>rfl
  | some jb=>
   obtain ⟨j,b⟩:=jb
   rw [hgd] at hg
   dsimp only at hg ⊢
   cases hq:ops[j]? with
   | none=>rw [hq] at hg;exact (no (fun _=>rfl) hg).elim
   | some r=>
    rw [hq] at hg
    dsimp only at hg ⊢
    cases hr:r.dst with
    | none=>rw [hr] at hg;exact (no (fun _=>rfl) hg).elim
    | some g=>
     rw [hr] at hg
     dsimp only at hg ⊢
     have skip:∀ {F:H→KV→Bool},(∀ h' k,F h' k=k V.u h')→(∀ k,F h k=k v h1)→(∀ h' k,F h' k=k v h')∧h1=h:=fun {F} a b=>by
      have e1:=(a h fun x y=>@decide (x=v∧y=h1) (Classical.propDecidable _)).symm.trans (b _)
      simp at e1
      exact ⟨fun h' k=>by rw [a,e1.1],e1.2.symm⟩
     by_cases hgN:g<N.n
     case neg=>simp only [if_neg hgN] at hg;exact (no (F:=fun _=>false) (fun _=>rfl) hg).elim
     simp only [if_pos hgN] at hg ⊢
     cases b with
     | true=>
      simp only [↓reduceIte] at hg ⊢
      cases hx:getT N g ρ e with
      | t z=>
       simp only [hx] at hg ⊢
       cases z with
       | true=>exact .inr fun h' k=>rfl
       | false=>exact .inl (skip (fun _ _=>rfl) hg)
      | x tg a b'=>
       simp only [hx] at hg ⊢
       cases tg <;> first
        | exact .inl (skip (fun _ _=>rfl) hg)
        | exact (no (F:=fun _=>false) (fun _=>rfl) hg).elim
      | _=>simp only [hx] at hg;exact (no (F:=fun _=>false) (fun _=>rfl) hg).elim
     | false=>
      simp only [Bool.false_eq_true,↓reduceIte] at hg ⊢
      cases hx:getT N g ρ e with
      | t z=>
       simp only [hx] at hg ⊢
       cases z with
       | false=>exact .inr fun h' k=>rfl
       | true=>exact .inl (skip (fun _ _=>rfl) hg)
      | x tg a b'=>
       simp only [hx] at hg ⊢
       cases tg <;> first
        | exact .inl (skip (fun _ _=>rfl) hg)
        | exact (no (F:=fun _=>false) (fun _=>rfl) hg).elim
      | _=>simp only [hx] at hg;exact (no (F:=fun _=>false) (fun _=>rfl) hg).elim
theorem ret_fun {F:KV→Bool} {v v':V} {h h':H} (a:∀ k,F k=k v h) (b:∀ k,F k=k v' h'):v=v'∧h=h':=by
 have e1:=(a fun x y=>@decide (x=v∧y=h) (Classical.propDecidable _)).symm.trans (b _)
 simp at e1
 exact ⟨e1.1.symm,e1.2.symm⟩
theorem ret_no {F:KV→Bool} {v:V} {h:H} (a:∀ k,F k=false) (b:∀ k:KV,F k=k v h):False:=by
 have:=(a fun _ _=>true).symm.trans (b fun _ _=>true);simp at this
theorem go_p {i:Nat} {ρ:TL} {e:L8} {id:Nat} {h:H} {v:V} {h1:H} (hc:clD P ops i=.p) (hg:Go1 P G cf N ops id i ρ e h v h1):h1=h∧∀ h',Go1 P G cf N ops id i ρ e h' v h':=by
 obtain ⟨o,ho,⟨a,c⟩ | a⟩:=goD_cases hg
 ·exact ⟨c,a⟩
 ·rw [clD_of ho] at hc
  have hp:∀ h' k,goD P G cf N ops id i ρ e h' k=pop P (opr P G N ρ e) o.op fun v=>k v h':=fun h' k=>by rw [a];unfold vopD;rw [hc]
  rcases ret_pop (P:=P) (q:=opr P G N ρ e) o.op with n | ⟨u,n⟩
  ·exact (ret_no (fun k=>(hp h k).trans (n _)) hg).elim
  ·obtain ⟨rfl,rfl⟩:=ret_fun (fun k=>(hp h k).trans (n _)) hg
   exact ⟨rfl,fun h' k=>(hp h' k).trans (n _)⟩
theorem go_l {i:Nat} {ρ:TL} {e:L8} {id:Nat} {h:H} {v:V} {h1:H} (hc:clD P ops i=.l) (hg:Go1 P G cf N ops id i ρ e h v h1):h1=h:=by
 obtain ⟨o,ho,⟨a,c⟩ | a⟩:=goD_cases hg
 ·exact c
 ·rw [clD_of ho] at hc
  have hp:∀ h' k,goD P G cf N ops id i ρ e h' k=lop P (opr P G N ρ e) o.op h' fun v=>k v h':=fun h' k=>by rw [a];unfold vopD;rw [hc]
  rcases ret_lop (P:=P) (q:=opr P G N ρ e) o.op h with n | ⟨u,n⟩
  ·exact (ret_no (fun k=>(hp h k).trans (n _)) hg).elim
  ·exact (ret_fun (fun k=>(hp h k).trans (n _)) hg).2.symm
theorem go_a {i:Nat} {ρ:TL} {e:L8} {id:Nat} {h:H} {v:V} {h1:H} (hc:clD P ops i=.a) (hg:Go1 P G cf N ops id i ρ e h v h1) :
  h1=h∧(∀ h',Go1 P G cf N ops id i ρ e h' v h')∨∃ B,h1=h.ins id B∧∀ h',Go1 P G cf N ops id i ρ e h' v (h'.ins id B):=by
 obtain ⟨o,ho,⟨a,c⟩ | a⟩:=goD_cases hg
 ·exact .inl ⟨c,a⟩
 ·rw [clD_of ho] at hc
  have hp:∀ h' k,goD P G cf N ops id i ρ e h' k=aop P (opr P G N ρ e) o.op id h' k:=fun h' k=>by rw [a];unfold vopD;rw [hc]
  rcases ret_aop (P:=P) (q:=opr P G N ρ e) o.op id with n | ⟨u,B,n⟩
  ·exact (ret_no (fun k=>(hp h k).trans (n _ _)) hg).elim
  ·obtain ⟨rfl,rfl⟩:=ret_fun (fun k=>(hp h k).trans (n _ _)) hg
   exact .inr ⟨B,rfl,fun h' k=>(hp h' k).trans (n _ _)⟩
theorem go_frm {r:Nat} (hcf:CallFrm r cf) {i:Nat} {ρ:TL} {e:L8} {id:Nat} {h:H} {v:V} {h1:H} (hne:clD P ops i=.a→cl id≠cl r) (hk:Kept r h) (hg:Go1 P G cf N ops id i ρ e h v h1) :
  Kept r h1∧∀ B,Go1 P G cf N ops id i ρ e (h.ins r B) v (h1.ins r B):=by
 rcases frm_goD (P:=P) (G:=G) (N:=N) hcf ops id i (fun o ho hc=>hne (by rw [clD_of ho];exact hc)) ρ e h hk with n | ⟨u,h2,n,k2,n2⟩
 ·exact (ret_no n hg).elim
 ·obtain ⟨rfl,rfl⟩:=ret_fun n hg
  exact ⟨k2,n2⟩
end Go.Bvm
set_option linter.unusedVariables false
namespace Go.Bvm
variable {P:Program} {G:Nat→Bool} {N:Fr} {cf:CallF} {ops:Array Oper} {b:Nat}
def Chk (P:Program) (G:Nat→Bool) (cf:CallF) (N:Fr) (ops:Array Oper) (l:Od) (ρ:TL) (e:L8) (h:H):Prop:=
 ∃ d v h',dstR ops l.i=some d∧Go1 P G cf N ops 0 l.i ρ e h v h'∧v=getT N d ρ e
def OwnL (P:Program) (G:Nat→Bool) (cf:CallF) (N:Fr) (ops:Array Oper) (b:Nat) (x:Od) (ρ:TL) (e:L8) (h:H) (v:V):Prop:=
 clD P ops x.i=.l→∀ q,x.r=q+1→∀ h':H,hget (Nat.add b q) h'.tr=hget (Nat.add b q) h.tr→Go1 P G cf N ops 0 x.i ρ e h' v h'
def Prot (P:Program) (ops:Array Oper) (b:Nat) (x:Od) (h h1:H):Prop:=clD P ops x.i=.f→∀ q,Nat.testBit x.r q=true→hget (Nat.add b q) h1.tr=hget (Nat.add b q) h.tr
def Suc (P:Program) (G:Nat→Bool) (cf:CallF) (N:Fr) (ops:Array Oper) (b:Nat) (Q:TL→L8→H→Prop):List Od→(Od→Prop)→TL→L8→H→Prop
 | [],S,ρ,e,h=>Q ρ e h
 | x::r,S,ρ,e,h=>∃ v h1,Go1 P G cf N ops (Nat.add b x.r) x.i ρ e h v h1∧okP N (dstR ops x.i)∧(∀ l,S l→l.i∈x.c→Chk P G cf N ops l (pρ (dstR ops x.i) v ρ) (pe N (dstR ops x.i) v e) h1)∧
   (OwnL P G cf N ops b x ρ e h v∧Prot P ops b x h h1)∧Suc P G cf N ops b Q r (fun z=>z=x∨S z) (pρ (dstR ops x.i) v ρ) (pe N (dstR ops x.i) v e) h1
def Resp (N:Fr) (Q:TL→L8→H→Prop):Prop:=∀ ρ ρ' e h,Eqv N ρ ρ'→Q ρ e h→Q ρ' e h
theorem Chk.congr {l:Od} {ρ ρ':TL} {e:L8} {h:H} (hr:Eqv N ρ ρ') (c:Chk P G cf N ops l ρ e h):Chk P G cf N ops l ρ' e h:=by
 obtain ⟨d,v,h',h1,h2,h3⟩:=c
 exact ⟨d,v,h',h1,fun k=>by rw [← goD_eqv hr];exact h2 k,by rw [← hr];exact h3⟩
theorem Suc.congr {Q:TL→L8→H→Prop} (hQ:Resp N Q):∀ {L:List Od} {S S':Od→Prop} {ρ ρ':TL} {e:L8} {h:H},Eqv N ρ ρ'→(∀ z,S' z→S z)→Suc P G cf N ops b Q L S ρ e h→Suc P G cf N ops b Q L S' ρ' e h
 | [],S,S',ρ,ρ',e,h,hr,hS,s=>hQ _ _ _ _ hr s
 | x::r,S,S',ρ,ρ',e,h,hr,hS,⟨v,h1,a1,a2,a3,a5,a4⟩=>
  ⟨v,h1,fun k=>by rw [← goD_eqv hr];exact a1 k,a2,fun l hl hc=>(a3 l (hS l hl) hc).congr (hr.put _ _),⟨fun hc q hq h' hh k=>by rw [← goD_eqv hr];exact a5.1 hc q hq h' hh k,a5.2⟩,
   Suc.congr hQ (hr.put _ _) (fun z hz=>hz.imp id (hS z)) a4⟩
theorem chks_true {ρ:TL} {e:L8} {h:H} (hcf:CallRet cf):∀ {c:List Nat} {k:Bool},chksD P G cf N ops c ρ e h k=true→k=true∧∀ j,j∈c→∃ d v h',dstR ops j=some d∧Go1 P G cf N ops 0 j ρ e h v h'∧v=getT N d ρ e
 | [],k,h=>⟨h,by simp⟩
 | j::r,k,hm=>by
  unfold chksD at hm
  split at hm
  ·rename_i d hd
   rcases RetV.iff.1 (ret_goD (P:=P) (G:=G) (N:=N) hcf ops 0 j ρ e h) with n | ⟨v,h',n⟩
   ·rw [n] at hm;simp at hm
   ·rw [n] at hm
    obtain ⟨h1,h2⟩:=both_true hm
    obtain ⟨h3,h4⟩:=chks_true hcf h2
    refine ⟨h3,fun i hi=>?_⟩
    rcases List.mem_cons.1 hi with rfl | hi
    ·exact ⟨d,v,h',hd,n,eqV_true h1⟩
    ·exact h4 i hi
  ·simp at hm
def Apart (ops:Array Oper) (l x:Od):Prop:=∀ d,dstR ops x.i=some d→d∉looks ops l.i∧dstR ops l.i≠some d
structure PairOk (P:Program) (ops:Array Oper) (x y:Od):Prop where
 d1:∀ d,dstR ops x.i=some d→d∉looks ops y.i
 d2:∀ d,dstR ops y.i=some d→d∉looks ops x.i
 d3:∀ d,dstR ops x.i=some d→dstR ops y.i≠some d
 c:clD P ops x.i=.p∨clD P ops y.i=.p∨(clD P ops x.i=.l∧clD P ops y.i=.l)∨clD P ops y.i=.a∨(clD P ops x.i=.l∧clD P ops y.i=.f∧x.i∈y.c∧x.r=0)∨(clD P ops x.i=.f∧clD P ops y.i=.l∧∃ q,y.r=q+1∧Nat.testBit x.r q=true)∨(clD P ops x.i=.a∧clD P ops y.i=.l∧∃ q,y.r=q+1∧x.r≠q)
structure PairAll (P:Program) (ops:Array Oper) (x y:Od):Prop where
 ne:x.i≠y.i
 nc:y.i∉x.c
 rr:clD P ops x.i=.a→clD P ops y.i=.a→x.r≠y.r
 ck:x.k=true→Apart ops x y
 kc:x.i∈y.c→x.k=true
 pa:clD P ops x.i=.a→clD P ops y.i=.f→Nat.testBit y.r x.r=false
 lo:clD P ops x.i=.l→clD P ops y.i=.a→x.r≠y.r+1
structure One (P:Program) (ops:Array Oper) (x:Od):Prop where
 k:x.k=true→clD P ops x.i=.l∧∀ d,dstR ops x.i=some d→d∉looks ops x.i
 c:x.c≠[]→clD P ops x.i=.f
 l:clD P ops x.i=.l→x.r≠0→∃ o t a,ops[x.i]?=some o∧o.op=.load t a
theorem lop_load {q:Operand→Option V} {t:TypeId} {a:Operand} {id off lim ver:Nat} (hq:q a=some (.p id off lim ver)) {h h':H} (e:hget id h'.tr=hget id h.tr) (k:V→Bool):lop P q (.load t a) h' k=lop P q (.load t a) h k:=by
 have u1:∀ x,ld1 (.p id off lim ver) h' x=ld1 (.p id off lim ver) h x:=fun x=>by
  show onBk (hget id h'.tr) _=onBk (hget id h.tr) _
  rw [e]
 have u2:∀ n x,lda n (.p id off lim ver) h' x=lda n (.p id off lim ver) h x:=fun n x=>by
  show onBk (hget id h'.tr) _=onBk (hget id h.tr) _
  rw [e]
 simp only [lop,un,hq,u1,u2]
theorem own_load {x:Od} {ρ:TL} {e:L8} {k:Bool} (hm:ownD P G N ops b x ρ e k=true) {q:Nat} (hq:x.r=q+1) {o:Oper} (ho:ops[x.i]?=some o) {t:TypeId} {a:Operand} (hop:o.op=.load t a):∃ off lim ver,opr P G N ρ e a=some (.p (Nat.add b q) off lim ver):=by
 unfold ownD at hm
 rw [hq] at hm
 simp only [ho,hop] at hm
 split at hm
 ·rename_i g hg
  cases g with
  | p id off lim ver=>
   obtain ⟨h1,_⟩:=both_true (show both (Nat.beq id (Nat.add b q)) k=true from hm)
   have:=beq_true h1
   subst this
   exact ⟨off,lim,ver,hg⟩
  | x g a b=>exact Bool.noConfusion (show false=true from hm)
  | _=>exact Bool.noConfusion (show false=true from hm)
 ·exact Bool.noConfusion hm
theorem own_of {x:Od} (hx:One P ops x) {ρ:TL} {e:L8} {h h1:H} {v:V} {k:Bool} (hm:ownD P G N ops b x ρ e k=true) (g:Go1 P G cf N ops (Nat.add b x.r) x.i ρ e h v h1):OwnL P G cf N ops b x ρ e h v:=by
 intro hc q hq h' hh
 obtain ⟨o,t,a,ho,hop⟩:=hx.l hc (by omega)
 obtain ⟨off,lim,ver,ha⟩:=own_load hm hq ho hop
 have h1h:=go_l hc g
 subst h1h
 obtain ⟨o',ho',⟨c,_⟩ | c⟩:=goD_cases g
 ·intro k'
  rw [goD_id (by rw [hc];simp) 0 (Nat.add b x.r)]
  exact c h' k'
 ·rw [ho] at ho'
  obtain rfl:=Option.some.inj ho'
  have hcl:clOf P o.op=.l:=by rw [clD_of ho] at hc;exact hc
  have hv:∀ (h':H) (k:KV),goD P G cf N ops (Nat.add b x.r) x.i ρ e h' k=lop P (opr P G N ρ e) o.op h' fun v=>k v h':=fun h' k=>by rw [c];unfold vopD;rw [hcl]
  intro k'
  rw [goD_id (by rw [hc];simp) 0 (Nat.add b x.r),hv,hop,lop_load ha hh,← hop]
  exact (hv h1 (fun u _=>k' u h')).symm.trans (g _)
theorem runD_suc (hcf:CallRet cf) (hf:∀ r,CallFrm r cf) (hN:N.l.length≤64) {K:KT}:∀ {L:List Od} {S:Od→Prop} {ρ:TL} {e:L8} {h:H},L.Pairwise (PairAll P ops)→(∀ x,x∈L→One P ops x)→(∀ x,x∈L→clD P ops x.i=.f→∀ q,Nat.testBit x.r q=true→Kept (Nat.add b q) h)→
  runD P G cf N ops b L ρ e h K=true→Suc P G cf N ops b (fun ρ e h=>∃ ρ0,Eqv N ρ0 ρ∧K ρ0 e h=true) L S ρ e h
 | [],S,ρ,e,h,_,_,_,hm=>⟨ρ,.refl _,hm⟩
 | x::r,S,ρ,e,h,hP,hO,hK,hm0=>by
  have hm1:ownD P G N ops b x ρ e (goD P G cf N ops (Nat.add b x.r) x.i ρ e h fun v h'=>put N (dstR ops x.i) v ρ e fun ρ' e'=>chksD P G cf N ops x.c ρ' e' h' (runD P G cf N ops b r ρ' e' h' K))=true:=hm0
  have hm:(goD P G cf N ops (Nat.add b x.r) x.i ρ e h fun v h'=>put N (dstR ops x.i) v ρ e fun ρ' e'=>chksD P G cf N ops x.c ρ' e' h' (runD P G cf N ops b r ρ' e' h' K))=true:=by
   rcases own_cases (P:=P) (G:=G) (N:=N) ops b x ρ e with n | n
   ·rw [n] at hm1;simp at hm1
   ·rw [n] at hm1;exact hm1
  have hPc:=List.pairwise_cons.1 hP
  rcases RetV.iff.1 (ret_goD (P:=P) (G:=G) (N:=N) hcf ops (Nat.add b x.r) x.i ρ e h) with n | ⟨v,h1,n⟩
  ·rw [n] at hm;simp at hm
  ·rw [n] at hm
   have hd:=put_ok hm
   rw [put_eq hN hd] at hm
   obtain ⟨hk,hc⟩:=chks_true hcf hm
   have nea:∀ q,(clD P ops x.i=.a→q≠x.r)→clD P ops x.i=.a→cl (Nat.add b x.r)≠cl (Nat.add b q):=fun q hq hc=>by
    have:=hq hc
    show b+x.r≠b+q
    omega
   refine ⟨v,h1,n,hd,fun l _ hl=>hc l.i hl,⟨own_of (hO x (by simp)) hm1 n,fun hcx q hq=>?_⟩,runD_suc hcf hf hN hPc.2 (fun y hy=>hO y (by simp [hy])) (fun y hy hcy q hq=>?_) hk⟩
   ·have k0:=hK x (by simp) hcx q hq
    rw [k0.nb,(go_frm (hf _) (fun hc'=>by rw [hcx] at hc';cases hc') k0 n).1.nb]
   ·have k0:=hK y (by simp [hy]) hcy q hq
    exact (go_frm (hf _) (nea q fun hca e1=>by have:=(hPc.1 y hy).pa hca hcy;rw [← e1,hq] at this;cases this) k0 n).1
theorem Chk.off (hN:N.l.length≤64) {l x:Od} (ha:Apart ops l x) {v:V} {ρ:TL} {e:L8} {h:H} (c:Chk P G cf N ops l (pρ (dstR ops x.i) v ρ) (pe N (dstR ops x.i) v e) h):Chk P G cf N ops l ρ e h:=by
 obtain ⟨d,u,h',h1,h2,h3⟩:=c
 refine ⟨d,u,h',h1,fun k=>?_,?_⟩
 ·have:=h2 k
  rw [goD_put hN (fun t ht=>(ha t ht).1)] at this;exact this
 ·rw [getT_put hN (fun e=>(ha d e).2 h1)] at h3;exact h3
theorem Chk.on (hN:N.l.length≤64) {l x:Od} (ha:Apart ops l x) {v:V} {ρ:TL} {e:L8} {h:H} (c:Chk P G cf N ops l ρ e h):Chk P G cf N ops l (pρ (dstR ops x.i) v ρ) (pe N (dstR ops x.i) v e) h:=by
 obtain ⟨d,u,h',h1,h2,h3⟩:=c
 refine ⟨d,u,h',h1,fun k=>?_,?_⟩
 ·rw [goD_put hN (fun t ht=>(ha t ht).1)];exact h2 k
 ·rw [getT_put hN (fun e=>(ha d e).2 h1)];exact h3
theorem Suc.swap (hf:∀ r,CallFrm r cf) (hN:N.l.length≤64) {Q:TL→L8→H→Prop} (hQ:Resp N Q) {x y:Od} {r:List Od} {S:Od→Prop} {ρ:TL} {e:L8} {h:H} (hp:PairOk P ops x y) (ha:PairAll P ops x y) (hx:One P ops x) (hy:One P ops y)
  (hS:∀ l,S l→(l.i∈x.c∨l.i∈y.c)→Apart ops l x∧Apart ops l y∧clD P ops l.i=.l) (hk:clD P ops y.i=.a→Kept (Nat.add b y.r) h) (hb:clD P ops x.i=.a→clD P ops y.i=.a→cl (Nat.add b x.r)≠cl (Nat.add b y.r))
  (s:Suc P G cf N ops b Q (x::y::r) S ρ e h):Suc P G cf N ops b Q (y::x::r) S ρ e h:=by
 obtain ⟨u,h1,g1,o1,c1,w1,v,h2,g2,o2,c2,w2,s2⟩:=s
 have g2':Go1 P G cf N ops (Nat.add b y.r) y.i ρ e h1 v h2:=fun k=>by rw [← goD_put hN hp.d1];exact g2 k
 have w2':OwnL P G cf N ops b y ρ e h1 v:=fun hc q hq h' hh k=>by rw [← goD_put hN hp.d1];exact w2.1 hc q hq h' hh k
 have hsw:=hp.d3
 have hsw':∀ t,dstR ops y.i=some t→dstR ops x.i≠some t:=fun t ht k=>hp.d3 t k ht
 have no_c:∀ z:Od,One P ops z→clD P ops z.i≠.f→z.c=[]:=fun z hz hc=>Classical.byContradiction fun k=>hc (hz.c k)
 have noO:∀ (z:Od) (h:H) (v:V),clD P ops z.i≠.l→OwnL P G cf N ops b z ρ e h v:=fun z h v hn hc=>absurd hc hn
 have noP:∀ (z:Od) (h h1:H),clD P ops z.i≠.f→Prot P ops b z h h1:=fun z h h1 hn hc=>absurd hc hn
 have fin:∀ h1',Go1 P G cf N ops (Nat.add b y.r) y.i ρ e h v h1'→Go1 P G cf N ops (Nat.add b x.r) x.i ρ e h1' u h2→
   (∀ l,S l→l.i∈y.c→Chk P G cf N ops l (pρ (dstR ops y.i) v ρ) (pe N (dstR ops y.i) v e) h1')→
   (∀ l,S l→l.i∈x.c→Chk P G cf N ops l (pρ (dstR ops x.i) u ρ) (pe N (dstR ops x.i) u e) h2)→
   OwnL P G cf N ops b y ρ e h v∧Prot P ops b y h h1'→OwnL P G cf N ops b x ρ e h1' u∧Prot P ops b x h1' h2→Suc P G cf N ops b Q (y::x::r) S ρ e h:=by
  intro h1' gy gx cy cx wy wx
  refine ⟨v,h1',gy,o2,cy,wy,u,h2,fun k=>by rw [goD_put hN hp.d2];exact gx k,o1,?_,⟨fun hc q hq h' hh k=>by rw [goD_put hN hp.d2];exact wx.1 hc q hq h' hh k,wx.2⟩,?_⟩
  ·intro l hl hc
   rcases hl with rfl | hl
   ·exact absurd hc ha.nc
   ·have:=(cx l hl hc).on (v:=v) hN (hS l hl (.inl hc)).2.1
    have e1:=pe_swap hN hsw u v e
    rw [e1]
    exact this.congr (Eqv.swap (d:=dstR ops y.i) (d':=dstR ops x.i) hsw' v u ρ)
  ·have e1:=pe_swap hN hsw u v e
   rw [e1]
   exact Suc.congr hQ (Eqv.swap (d:=dstR ops y.i) (d':=dstR ops x.i) hsw' v u ρ) (fun z hz=>by
    rcases hz with rfl | rfl | hz
    ·exact .inr (.inl rfl)
    ·exact .inl rfl
    ·exact .inr (.inr hz)) s2
 have cy0:∀ l,S l→l.i∈y.c→Chk P G cf N ops l (pρ (dstR ops y.i) v ρ) (pe N (dstR ops y.i) v e) h2:=fun l hl hc=>by
  have:=c2 l (.inr hl) hc
  have e1:=pe_swap hN hsw u v e
  rw [← e1] at this
  exact (this.congr (Eqv.swap (d:=dstR ops y.i) (d':=dstR ops x.i) hsw' v u ρ)).off hN (hS l hl (.inr hc)).1
 rcases hp.c with hc | hc | ⟨hc,hc'⟩ | hc | ⟨hc,hc',hm,hx0⟩ | ⟨hc,hc',q0,hq0,hbit⟩ | ⟨hc,hc',q0,hq0,hbit⟩
 ·obtain ⟨rfl,gx⟩:=go_p hc g1
  refine fin h2 g2' (gx h2) cy0 ?_ ⟨w2',w2.2⟩ ⟨noO _ _ _ (by rw [hc];simp),noP _ _ _ (by rw [hc];simp)⟩
  intro l hl hm;rw [no_c x hx (by rw [hc];simp)] at hm;simp at hm
 ·obtain ⟨rfl,gy⟩:=go_p hc g2'
  refine fin h (gy h) g1 (fun l hl hm=>?_) c1 ⟨noO _ _ _ (by rw [hc];simp),noP _ _ _ (by rw [hc];simp)⟩ w1
  rw [no_c y hy (by rw [hc];simp)] at hm;simp at hm
 ·obtain rfl:=go_l hc g1
  obtain rfl:=go_l hc' g2'
  refine fin _ g2' g1 (fun l hl hm=>?_) c1 ⟨w2',noP _ _ _ (by rw [hc'];simp)⟩ w1
  rw [no_c y hy (by rw [hc'];simp)] at hm;simp at hm
 ·have hyc:y.c=[]:=no_c y hy (by rw [hc];simp)
  have hkr:=hk hc
  have wy0:∀ h',OwnL P G cf N ops b y ρ e h v∧Prot P ops b y h h':=fun h'=>⟨noO _ _ _ (by rw [hc];simp),noP _ _ _ (by rw [hc];simp)⟩
  rcases go_a hc g2' with ⟨rfl,gy⟩ | ⟨B,rfl,gy⟩
  ·exact fin h (gy h) g1 (fun l hl hm=>by rw [hyc] at hm;simp at hm) c1 (wy0 _) w1
  ·obtain ⟨k1,f1⟩:=go_frm (hf _) (fun hc'=>hb hc' hc) hkr g1
   refine fin _ (gy h) (f1 B) (fun l hl hm=>by rw [hyc] at hm;simp at hm) ?_ (wy0 _) ⟨fun hcx q hq h' hh=>w1.1 hcx q hq h' (hh.trans (Kept.ins_get ?_ B)),fun hcx q hq=>?_⟩
   ·intro l hl hm
    obtain ⟨d,w,h',q1,q2,q3⟩:=c1 l hl hm
    have hlc:=(hS l hl (.inl hm)).2.2
    obtain ⟨_,f2⟩:=go_frm (hf _) (fun hc'=>by rw [hlc] at hc';simp at hc') k1 q2
    exact ⟨d,w,_,q1,f2 B,q3⟩
   ·have:=ha.lo hcx hc
    show b+q≠b+y.r
    omega
   ·by_cases e1:q=y.r
    ·subst e1
     show hget _ (hset _ B _)=hget _ (hset _ B _)
     rw [hget_set,hget_set,if_pos rfl,if_pos rfl]
    ·have hne:cl (Nat.add b q)≠cl (Nat.add b y.r):=by show b+q≠b+y.r;omega
     rw [Kept.ins_get hne,Kept.ins_get hne]
     exact w1.2 hcx q hq
 ·obtain rfl:=go_l hc g1
  refine fin h2 g2' ?_ cy0 (fun l hl hm=>by rw [no_c x hx (by rw [hc];simp)] at hm;simp at hm) ⟨noO _ _ _ (by rw [hc'];simp),w2.2⟩ ⟨fun _ q hq=>by rw [hx0] at hq;omega,noP _ _ _ (by rw [hc];simp)⟩
  obtain ⟨d,w,h',q1,q2,q3⟩:=c2 x (.inl rfl) hm
  have hxl:=go_l hc q2
  subst hxl
  have hkx:=hx.k (ha.kc hm)
  have hu:w=u:=by
   rw [q3,getT_put hN (fun e=>hp.d3 d q1 e)]
   rw [q1];exact getT_put_same u ρ _
  subst hu
  intro k
  have:=q2 k
  rw [goD_put hN hp.d2,goD_put hN (fun t ht=>hkx.2 t ht)] at this
  rw [goD_id (by rw [hc];simp) _ 0];exact this
 ·obtain rfl:=go_l hc' g2'
  have hpr:=w1.2 hc q0 hbit
  have gy:Go1 P G cf N ops (Nat.add b y.r) y.i ρ e h v h:=fun k=>by
   rw [goD_id (by rw [hc'];simp) _ 0];exact w2' hc' q0 hq0 h hpr.symm k
  refine fin h gy g1 (fun l hl hm=>by rw [no_c y hy (by rw [hc'];simp)] at hm;simp at hm) c1 ⟨fun hcy q hq h' hh=>w2' hcy q hq h' ?_,noP _ _ _ (by rw [hc'];simp)⟩ w1
  obtain rfl:q=q0:=by omega
  exact hh.trans hpr.symm
 ·obtain rfl:=go_l hc' g2'
  have hpr:hget (Nat.add b q0) h2.tr=hget (Nat.add b q0) h.tr:=by
   rcases go_a hc g1 with ⟨e1,_⟩ | ⟨B,e1,_⟩
   ·rw [e1]
   ·rw [e1]
    exact Kept.ins_get (by show b+q0≠b+x.r;omega) B
  have gy:Go1 P G cf N ops (Nat.add b y.r) y.i ρ e h v h:=fun k=>by
   rw [goD_id (by rw [hc'];simp) _ 0];exact w2' hc' q0 hq0 h hpr.symm k
  refine fin h gy g1 (fun l hl hm=>by rw [no_c y hy (by rw [hc'];simp)] at hm;simp at hm) c1 ⟨fun hcy q hq h' hh=>w2' hcy q hq h' ?_,noP _ _ _ (by rw [hc'];simp)⟩ w1
  obtain rfl:q=q0:=by omega
  exact hh.trans hpr.symm
def Fit (P:Program) (ops:Array Oper) (S:Od→Prop) (L:List Od):Prop:=∀ l,S l→∀ z,z∈L→l.i∈z.c→clD P ops l.i=.l∧∀ w,w∈L→Apart ops l w
theorem Fit.next {S:Od→Prop} {x:Od} {L:List Od} (h:Fit P ops S (x::L)) (hx:One P ops x) (hp:∀ y,y∈L→PairAll P ops x y):Fit P ops (fun z=>z=x∨S z) L:=by
 intro l hl z hz hc
 rcases hl with rfl | hl
 ·have hk:=(hp z hz).kc hc
  exact ⟨(hx.k hk).1,fun w hw=>(hp w hw).ck hk⟩
 ·obtain ⟨h1,h2⟩:=h l hl z (List.mem_cons_of_mem _ hz) hc
  exact ⟨h1,fun w hw=>h2 w (List.mem_cons_of_mem _ hw)⟩
theorem Fit.pick {S:Od→Prop} {y:Od} {A r:List Od} (h:Fit P ops S (A++y::r)) (hy:One P ops y) (hA:∀ x,x∈A→PairOk P ops x y∧PairAll P ops x y) (hr:∀ z,z∈r→PairAll P ops y z):Fit P ops (fun z=>z=y∨S z) (A++r):=by
 intro l hl z hz hc
 have mem:∀ w,w∈A++r→w∈A++y::r:=fun w hw=>by
  rcases List.mem_append.1 hw with k | k
  ·exact List.mem_append_left _ k
  ·exact List.mem_append_right _ (List.mem_cons_of_mem _ k)
 rcases hl with rfl | hl
 ·rcases List.mem_append.1 hz with hz | hz
  ·exact absurd hc (hA z hz).2.nc
  ·have hk:=(hr z hz).kc hc
   refine ⟨(hy.k hk).1,fun w hw=>?_⟩
   rcases List.mem_append.1 hw with hw | hw
   ·exact fun d hd=>⟨(hA w hw).1.d1 d hd,(hA w hw).1.d3 d hd⟩
   ·exact (hr w hw).ck hk
 ·obtain ⟨h1,h2⟩:=h l hl z (mem z hz) hc
  exact ⟨h1,fun w hw=>h2 w (mem w hw)⟩
theorem Suc.front (hf:∀ r,CallFrm r cf) (hN:N.l.length≤64) {Q:TL→L8→H→Prop} (hQ:Resp N Q) {y:Od} {r:List Od} (hy:One P ops y):∀ {A:List Od} {S:Od→Prop} {ρ:TL} {e:L8} {h:H},
  (∀ x,x∈A→PairOk P ops x y)→(A++y::r).Pairwise (PairAll P ops)→(∀ x,x∈A→One P ops x)→(∀ x,x∈A→clD P ops x.i=.a→clD P ops y.i=.a→cl (Nat.add b x.r)≠cl (Nat.add b y.r))→
  Fit P ops S (A++y::r)→(clD P ops y.i=.a→Kept (Nat.add b y.r) h)→
  Suc P G cf N ops b Q (A++y::r) S ρ e h→Suc P G cf N ops b Q (y::(A++r)) S ρ e h
 | [],S,ρ,e,h,_,_,_,_,_,_,s=>s
 | x::A,S,ρ,e,h,hA,hP,hO,hb,hS,hk,s=>by
  rw [List.cons_append,List.pairwise_cons] at hP
  obtain ⟨v,h1,g1,o1,c1,w1,s2⟩:=s
  have hx:=hO x (by simp)
  have hyL:y∈A++y::r:=by simp
  have k1:clD P ops y.i=.a→Kept (Nat.add b y.r) h1:=fun hc=>(go_frm (hf _) (fun hc'=>hb x (by simp) hc' hc) (hk hc) g1).1
  have ih:=Suc.front hf hN hQ hy (fun z hz=>hA z (by simp [hz])) hP.2 (fun z hz=>hO z (by simp [hz])) (fun z hz=>hb z (by simp [hz])) (Fit.next hS hx hP.1) k1 s2
  refine Suc.swap hf hN hQ (hA x (by simp)) (hP.1 y hyL) hx hy (fun l hl hc=>?_) hk (hb x (by simp)) ⟨v,h1,g1,o1,c1,w1,ih⟩
  rcases hc with hc | hc
  ·obtain ⟨q1,q2⟩:=hS l hl x (by simp) hc
   exact ⟨q2 x (by simp),q2 y (by simp),q1⟩
  ·obtain ⟨q1,q2⟩:=hS l hl y (by simp) hc
   exact ⟨q2 x (by simp),q2 y (by simp),q1⟩
noncomputable section
def isA (c:Cl):Bool:=match c with | .a=>true | _=>false
def isF (c:Cl):Bool:=match c with | .f=>true | _=>false
def isP' (c:Cl):Bool:=match c with | .p=>true | _=>false
def notIn (d:Option Tmp) (l:List Nat):Bool:=match d with | none=>true | some t=>!l.contains t
def otherD (d d':Option Tmp):Bool:=match d,d' with | some t,some u=>!Nat.beq t u | _,_=>true
def isLd (ops:Array Oper) (i:Nat):Bool:=match ops[i]? with | some o=>(match o.op with | .load _ _=>true | _=>false) | none=>false
def apartB (ops:Array Oper) (l x:Od):Bool:=notIn (dstR ops x.i) (looks ops l.i) && otherD (dstR ops x.i) (dstR ops l.i)
def pairOkB (P:Program) (ops:Array Oper) (x y:Od):Bool:=
 notIn (dstR ops x.i) (looks ops y.i) && notIn (dstR ops y.i) (looks ops x.i) && otherD (dstR ops x.i) (dstR ops y.i) &&
 (isP' (clD P ops x.i) || isP' (clD P ops y.i) || (isL (clD P ops x.i) && isL (clD P ops y.i)) || isA (clD P ops y.i) || (isL (clD P ops x.i) && isF (clD P ops y.i) && y.c.contains x.i && Nat.beq x.r 0) || (isF (clD P ops x.i) && isL (clD P ops y.i) && Nat.ble 1 y.r && Nat.testBit x.r (Nat.sub y.r 1)) || (isA (clD P ops x.i) && isL (clD P ops y.i) && Nat.ble 1 y.r && !Nat.beq (Nat.succ x.r) y.r))
def pairAllB (P:Program) (ops:Array Oper) (x y:Od):Bool:=
 !Nat.beq x.i y.i && !x.c.contains y.i && (!isA (clD P ops x.i) || !isA (clD P ops y.i) || !Nat.beq x.r y.r) && (!x.k || apartB ops x y) && (!y.c.contains x.i || x.k) &&
 (!isA (clD P ops x.i) || !isF (clD P ops y.i) || !Nat.testBit y.r x.r) && (!isL (clD P ops x.i) || !isA (clD P ops y.i) || !Nat.beq x.r (Nat.succ y.r))
def oneB (P:Program) (ops:Array Oper) (x:Od):Bool:=
 (!x.k || (isL (clD P ops x.i) && notIn (dstR ops x.i) (looks ops x.i))) && (x.c.isEmpty || isF (clD P ops x.i)) && (!isL (clD P ops x.i) || Nat.beq x.r 0 || isLd ops x.i)
def afterB (ops:Array Oper) (i:Nat):List Nat:=match ops[i]? with
 | some o=>o.after.toList.filterMap fun e=>if Region.binds .any e then some e.on else none
 | none=>[]
def orL (m:Nat→Nat):List Nat→Nat→Nat
 | [],n=>n
 | i::r,n=>orL m r (Nat.lor (Nat.lor (Nat.shiftLeft 1 i) (m i)) n)
def maskIn (L:List Od) (i:Nat):Nat:=match L.find? (fun x=>Nat.beq x.i i) with | some x=>x.m | none=>0
def restB (P:Program) (ops:Array Oper):List Od→Bool
 | []=>true
 | x::r=>oneB P ops x && Nat.ble (Nat.succ x.i) ops.size && (afterB ops x.i).all (fun j=>Nat.ble (Nat.succ j) ops.size && !Nat.beq j x.i && r.all fun y=>!Nat.beq j y.i) &&
   r.all (fun y=>pairAllB P ops x y && (Nat.testBit y.m x.i || pairOkB P ops x y)) && restB P ops r
def chkR (P:Program) (ops:Array Oper) (L:List Od):Bool:=
 Nat.beq L.length ops.size && restB P ops L && (List.range ops.size).all (fun j=>L.any fun x=>Nat.beq x.i j) && L.all fun x=>Nat.beq x.m (orL (maskIn L) (afterB ops x.i) 0)
def chkC (P:Program) (N:Fr):Code→Bool
 | .region i ops true=>match N.o i with | some (_,l)=>chkR P ops l | none=>true
 | .seq a b=>chkC P N a && chkC P N b
 | .cond _ a b=>chkC P N a && chkC P N b
 | .block _ a=>chkC P N a
 | .loop a=>chkC P N a
 | _=>true
end
end Go.Bvm
set_option linter.unusedVariables false
namespace Go.Bvm
variable {P:Program} {G:Nat→Bool} {N:Fr} {cf:CallF} {ops:Array Oper} {b:Nat}
theorem notIn_true {d:Option Tmp} {l:List Nat} (h:notIn d l=true):∀ t,d=some t→t∉l:=by
 intro t ht;subst ht
 simpa [notIn] using h
theorem otherD_true {d d':Option Tmp} (h:otherD d d'=true):∀ t,d=some t→d'≠some t:=by
 intro t ht ht';subst ht ht'
 simp [otherD] at h
theorem isA_of {c:Cl} (h:isA c=true):c=.a:=by cases c <;> first | rfl | exact Bool.noConfusion (show false=true from h)
theorem isF_of {c:Cl} (h:isF c=true):c=.f:=by cases c <;> first | rfl | exact Bool.noConfusion (show false=true from h)
theorem isP_of {c:Cl} (h:isP' c=true):c=.p:=by cases c <;> first | rfl | exact Bool.noConfusion (show false=true from h)
theorem apartB_true {l x:Od} (h:apartB ops l x=true):Apart ops l x:=by
 simp only [apartB,Bool.and_eq_true] at h
 exact fun d hd=>⟨notIn_true h.1 d hd,otherD_true h.2 d hd⟩
theorem pairOkB_true {x y:Od} (h:pairOkB P ops x y=true):PairOk P ops x y:=by
 simp only [pairOkB,Bool.and_eq_true,Bool.or_eq_true] at h
 obtain ⟨⟨⟨h1,h2⟩,h3⟩,h4⟩:=h
 refine ⟨notIn_true h1,notIn_true h2,otherD_true h3,?_⟩
 rcases h4 with (((((h | h) | h) | h) | h) | h) | h
 ·exact .inl (isP_of h)
 ·exact .inr (.inl (isP_of h))
 ·exact .inr (.inr (.inl ⟨isL_of h.1,isL_of h.2⟩))
 ·exact .inr (.inr (.inr (.inl (isA_of h))))
 ·exact .inr (.inr (.inr (.inr (.inl ⟨isL_of h.1.1.1,isF_of h.1.1.2,by simpa using h.1.2,beq_true h.2⟩))))
 ·have h1:1≤y.r:=ble_true h.1.2
  exact .inr (.inr (.inr (.inr (.inr (.inl ⟨isF_of h.1.1.1,isL_of h.1.1.2,y.r-1,by omega,h.2⟩)))))
 ·have h1:1≤y.r:=ble_true h.1.2
  have h2:=h.2
  exact .inr (.inr (.inr (.inr (.inr (.inr ⟨isA_of h.1.1.1,isL_of h.1.1.2,y.r-1,by omega,fun e=>by rw [show Nat.succ x.r=y.r by omega] at h2;simp at h2⟩)))))
theorem pairAllB_true {x y:Od} (h:pairAllB P ops x y=true):PairAll P ops x y:=by
 simp only [pairAllB,Bool.and_eq_true,Bool.or_eq_true,Bool.not_eq_true'] at h
 obtain ⟨⟨⟨⟨⟨⟨h1,h2⟩,h3⟩,h4⟩,h5⟩,h6⟩,h7⟩:=h
 refine ⟨fun e=>by rw [e] at h1;simp at h1,by simpa using h2,fun a c e=>?_,fun hk=>?_,fun hc=>?_,fun a c=>?_,fun a c e=>?_⟩
 ·rw [a,c,e] at h3;simp [isA] at h3
 ·rcases h4 with h4 | h4
  ·rw [hk] at h4;simp at h4
  ·exact apartB_true h4
 ·rcases h5 with h5 | h5
  ·simp at h5;exact absurd hc h5
  ·exact h5
 ·rw [a,c] at h6;simpa [isA,isF] using h6
 ·rw [a,c,e] at h7;simp [isA,isL] at h7
theorem oneB_true {x:Od} (h:oneB P ops x=true):One P ops x:=by
 simp only [oneB,Bool.and_eq_true,Bool.or_eq_true,Bool.not_eq_true'] at h
 refine ⟨fun hk=>?_,fun hc=>?_,fun hc hr=>?_⟩
 ·rcases h.1.1 with h1 | h1
  ·rw [hk] at h1;simp at h1
  ·exact ⟨isL_of h1.1,notIn_true h1.2⟩
 ·rcases h.1.2 with h1 | h1
  ·exact absurd (by simpa using h1) hc
  ·exact isF_of h1
 ·rcases h.2 with (h1 | h1) | h1
  ·rw [hc] at h1;simp [isL] at h1
  ·exact absurd (beq_true h1) hr
  ·unfold isLd at h1
   split at h1
   ·rename_i o ho
    split at h1
    ·rename_i t a hop
     exact ⟨o,t,a,ho,hop⟩
    ·cases h1
   ·cases h1
structure Sta (P:Program) (ops:Array Oper) (L:List Od):Prop where
 pw:L.Pairwise fun x y=>PairAll P ops x y∧(Nat.testBit y.m x.i=true∨PairOk P ops x y)∧∀ j,j∈afterB ops x.i→j≠y.i
 one:∀ x,x∈L→One P ops x∧x.i<ops.size∧∀ j,j∈afterB ops x.i→j<ops.size∧j≠x.i
theorem Sta.sub {L L':List Od} (h:Sta P ops L) (s:L'.Sublist L):Sta P ops L':=⟨h.pw.sublist s,fun x hx=>h.one x (s.subset hx)⟩
theorem restB_true:∀ {L:List Od},restB P ops L=true→Sta P ops L
 | [],_=>⟨.nil,by simp⟩
 | x::r,h=>by
  simp only [restB,Bool.and_eq_true,List.all_eq_true] at h
  obtain ⟨⟨⟨⟨h1,h2⟩,h3⟩,h4⟩,h5⟩:=h
  obtain ⟨p,o⟩:=restB_true h5
  refine ⟨List.pairwise_cons.2 ⟨fun y hy=>?_,p⟩,fun z hz=>?_⟩
  ·have:=h4 y hy
   simp only [Bool.or_eq_true] at this
   refine ⟨pairAllB_true this.1,this.2.imp id pairOkB_true,fun j hj e=>?_⟩
   have:=(h3 j hj).2 y hy
   rw [e] at this;simp at this
  ·rcases List.mem_cons.1 hz with rfl | hz
   ·refine ⟨oneB_true h1,ble_true h2,fun j hj=>⟨ble_true (h3 j hj).1.1,fun e=>?_⟩⟩
    have:=(h3 j hj).1.2
    rw [e] at this;simp at this
   ·exact o z hz
theorem orL_testBit {m:Nat→Nat} {j:Nat}:∀ {l:List Nat} {n:Nat},Nat.testBit (orL m l n) j=true→Nat.testBit n j=true∨∃ i,i∈l∧(j=i∨Nat.testBit (m i) j=true)
 | [],n,h=>.inl h
 | i::r,n,h=>by
  rcases orL_testBit (l:=r) h with h | ⟨k,h1,h2⟩
  ·have h:Nat.testBit ((1 <<< i ||| m i) ||| n) j=true:=h
   rw [Nat.testBit_or,Nat.testBit_or,Bool.or_eq_true,Bool.or_eq_true] at h
   rcases h with (h | h) | h
   ·refine .inr ⟨i,by simp,.inl ?_⟩
    rw [Nat.one_shiftLeft,Nat.testBit_two_pow] at h
    exact (of_decide_eq_true h).symm
   ·exact .inr ⟨i,by simp,.inr h⟩
   ·exact .inl h
  ·exact .inr ⟨k,by simp [h1],h2⟩
theorem maskIn_some {L:List Od} {i j:Nat} (h:Nat.testBit (maskIn L i) j=true):∃ z,z∈L∧z.i=i∧Nat.testBit z.m j=true:=by
 unfold maskIn at h
 split at h
 ·rename_i x hx
  have h2:Nat.beq x.i i=true:=by have:=List.find?_some hx;exact this
  exact ⟨x,List.mem_of_find?_eq_some hx,beq_true h2,h⟩
 ·simp at h
theorem mem_ready {listed:Array Bool} {i:Nat}:i∈Region.ready .any ops listed↔i<ops.size∧listed.getD i true=false∧∀ j,j∈afterB ops i→listed.getD j false=true:=by
 unfold Region.ready
 rw [List.mem_filter,List.mem_range]
 constructor
 ·rintro ⟨h1,h2⟩
  rw [Bool.and_eq_true] at h2
  refine ⟨h1,by simpa using h2.1,fun j hj=>?_⟩
  unfold afterB at hj
  rw [Array.getElem?_eq_getElem h1] at hj h2
  simp only [List.mem_filterMap] at hj
  obtain ⟨e,he,hj⟩:=hj
  have:=h2.2
  simp only [Option.map_some,Option.getD_some,Array.all_eq_true'] at this
  have:=this e (by simpa using he)
  split at hj
  ·rename_i hb
   simp only [Option.some.injEq] at hj;subst hj
   rw [hb] at this;simpa using this
  ·simp at hj
 ·rintro ⟨h1,h2,h3⟩
  refine ⟨h1,?_⟩
  rw [Bool.and_eq_true]
  refine ⟨by simpa using h2,?_⟩
  unfold afterB at h3
  rw [Array.getElem?_eq_getElem h1] at h3 ⊢
  simp only [Option.map_some,Option.getD_some,Array.all_eq_true']
  intro e he
  cases hb:Region.binds .any e with
  | false=>simp
  | true=>
   have:=h3 e.on (by simp only [List.mem_filterMap];exact ⟨e,by simpa using he,by rw [if_pos hb]⟩)
   rw [this];simp
def DPost (k:KV) (φ:Phi) (n0 id:Nat) (A:Prop) (h:H) (w:World) (c:Value) (w':World):Prop:=∃ v h' φ',k v h'=true∧RV φ' v c∧Rel φ' h' w'∧Ext φ ⟨n0,h.tr⟩ w φ' h' w'∧
 ∀ i,i<h.next→hget i h.tr=.nb→(A→i≠id)→(∀ u,φ i u=none)→∀ u,φ' i u=none
theorem Ext.from {φ φ':Phi} {h h':H} {w w':World} (X:Ext φ h w φ' h' w') {n0:Nat} (hn:n0≤h.next):Ext φ ⟨n0,h.tr⟩ w φ' h' w':=
 ⟨X.le,X.os,X.tape,X.output,X.size,Nat.le_trans hn X.next,X.own,X.vis,X.frame,fun id hi=>X.dead id (Nat.lt_of_lt_of_le hi hn)⟩
theorem vopD_ok {q:Operand→Option V} (hcf:CallS P G cf) (o:Oper) {id n0:Nat} {h:H} {k:KV} (hm:vopD P cf q id o.op h k=true) {φ:Phi} {ρ:Operand→Value} {w:World} (hg:GlobOk P G φ) (hρ:∀ f,ρ (.func f)=.func (.func f) #[] #[]) (r:QR φ q ρ) (R:Rel φ h w) (hn:n0≤h.next)
  (hid:clOf P o.op=.a→n0≤id∧id<h.next∧∀ u,φ id u=none):OpRun P (execOp ρ o) w (DPost k φ n0 id (clOf P o.op=.a) h w):=by
 unfold vopD at hm
 split at hm
 ·obtain ⟨v,c,h1,h2,h3⟩:=pop_ok o hm φ ρ h w r R
  exact .inl ⟨c,w,h1,v,h,φ,h3,h2,R,(Ext.refl _ _ _).from hn,fun _ _ _ _ a=>a⟩
 ·obtain ⟨v,c,h1,h2,h3⟩:=lop_ok o hm r R
  exact .inl ⟨c,w,h1,v,h,φ,h3,h2,R,(Ext.refl _ _ _).from hn,fun _ _ _ _ a=>a⟩
 ·rename_i hc
  obtain ⟨i1,i2,i3⟩:=hid hc
  obtain ⟨c,w',e1,v,h',φ',e2,e3,e4,e5,e6⟩:=aop_ok o hm φ ρ w r R i2 i3
  exact .inl ⟨c,w',e1,v,h',φ',e2,e3,e4,e5 n0 i1,fun i _ _ hne hi u=>by rw [e6 i u (hne hc)];exact hi u⟩
 ·exact (fop_ok hcf o hm hg hρ r R).mono fun c w' ⟨v,h',φ',e1,e2,e3,X⟩=>⟨v,h',φ',e1,e2,e3,X.from hn,fun i hi hb _ ha u=>by rw [(X.dead i hi hb).2 u];exact ha u⟩
def boolOf (v:Value):Option Bool:=match v with | .bool b=>some b | _=>none
theorem guardT_true {x:V} {h:H} {f:KV→Bool} {k:KV} (hm:guardT x h f k=true):(x=.t true∧f k=true)∨((x=.t false∨∃ a b,x=.x .undef a b)∧k V.u h=true):=by
 cases x with
 | t b=>cases b with
  | true=>exact .inl ⟨rfl,hm⟩
  | false=>exact .inr ⟨.inl rfl,hm⟩
 | x g a b=>cases g <;> first | exact Bool.noConfusion (show false=true from hm) | exact .inr ⟨.inr ⟨_,_,rfl⟩,hm⟩
 | _=>exact Bool.noConfusion (show false=true from hm)
theorem guardF_true {x:V} {h:H} {f:KV→Bool} {k:KV} (hm:guardF x h f k=true):(x=.t false∧f k=true)∨((x=.t true∨∃ a b,x=.x .undef a b)∧k V.u h=true):=by
 cases x with
 | t b=>cases b with
  | false=>exact .inl ⟨rfl,hm⟩
  | true=>exact .inr ⟨.inl rfl,hm⟩
 | x g a b=>cases g <;> first | exact Bool.noConfusion (show false=true from hm) | exact .inr ⟨.inr ⟨_,_,rfl⟩,hm⟩
 | _=>exact Bool.noConfusion (show false=true from hm)
theorem eval_func (a:Act) (f:Nat):a.eval (.func f)=.func (.func f) #[] #[]:=rfl
theorem yielded_of {ops:Array Oper} {tmps:Array Value} {j:Nat} {r:Oper} {g:Nat} {v:Value} (hq:ops[j]?=some r) (hqd:r.dst=some g) (hv:tmps[g]?=some v):yielded ops tmps j=boolOf v:=by
 unfold yielded
 rw [hq];simp only [Option.bind_some,hqd,hv]
 cases v <;> rfl
theorem goD_ok (hcf:CallS P G cf) {id i n0:Nat} {ρ:TL} {e:L8} {h:H} {k:KV} (hm:goD P G cf N ops id i ρ e h k=true) {φ:Phi} {w:World} {a:Act} (hg:GlobOk P G φ) (r:RE φ N ρ e a) (R:Rel φ h w) (hn:n0≤h.next)
  (hid:clD P ops i=.a→n0≤id∧id<h.next∧∀ u,φ id u=none) (Q:Exit→Act→World→Prop) (K:Act→World→Prop)
  (hnext:∀ c w',DPost k φ n0 id (clD P ops i=.a) h w c w'→K (a.put (dstR ops i) c) w'):wpOp P ops Q i K a w:=by
 unfold goD at hm
 unfold wpOp
 cases ho:ops[i]? with
 | none=>rw [ho] at hm;simp at hm
 | some o=>
  rw [ho] at hm
  have hdst:dstR ops i=o.dst:=by unfold dstR;rw [ho]
  rw [hdst] at hnext
  rw [clD_of ho] at hid hnext
  simp only at hm ⊢
  cases hgd:o.guard with
  | none=>
   rw [hgd] at hm
   rw [if_pos (by simp [Region.wanted,hgd])]
   exact .inl ((vopD_ok hcf o hm hg (eval_func a) (opr_ok hg r) R hn hid).wp hnext)
  | some jb=>
   obtain ⟨j,b⟩:=jb
   rw [hgd] at hm
   simp only at hm
   cases hq:ops[j]? with
   | none=>rw [hq] at hm;simp at hm
   | some q=>
    rw [hq] at hm
    simp only at hm
    cases hqd:q.dst with
    | none=>rw [hqd] at hm;simp at hm
    | some g=>
     rw [hqd] at hm
     simp only at hm
     by_cases hgN:g<N.n
     case neg=>rw [if_neg hgN] at hm;simp at hm
     rw [if_pos hgN] at hm
     obtain ⟨v,hv,rv,_⟩:=r.at_ g hgN
     have hy:=yielded_of (ops:=ops) hq hqd hv
     have yes:v=.bool b→vopD P cf (opr P G N ρ e) id o.op h k=true→(if Region.wanted o (yielded ops a.tmps)=true then o.wp P a w K Q∨o.asks P a w∧LetsOut Q else K (a.put o.dst undef) w):=fun hvb hk=>by
      rw [if_pos (by unfold Region.wanted;rw [hgd];show (yielded ops a.tmps j == some b)=true;rw [hy,hvb];simp [boolOf])]
      exact .inl ((vopD_ok hcf o hk hg (eval_func a) (opr_ok hg r) R hn hid).wp hnext)
     have no:(∀ t,v=.bool t→t=!b)→k V.u h=true→(if Region.wanted o (yielded ops a.tmps)=true then o.wp P a w K Q∨o.asks P a w∧LetsOut Q else K (a.put o.dst undef) w):=fun hne hk=>by
      have:Region.wanted o (yielded ops a.tmps)=false:=by
       unfold Region.wanted
       rw [hgd]
       show (yielded ops a.tmps j == some b)=false
       rw [hy]
       cases v with
       | bool z=>
        have:=hne z rfl
        subst this
        cases b <;> rfl
       | _=>rfl
      rw [if_neg (by rw [this];simp)]
      exact hnext undef w ⟨V.u,h,φ,hk,.undef,R,(Ext.refl _ _ _).from hn,fun _ _ _ _ a=>a⟩
     cases b with
     | true=>
      rw [if_pos rfl] at hm
      rcases guardT_true hm with ⟨e1,hk⟩ | ⟨e1 | ⟨_,_,e1⟩,hk⟩
      ·rw [e1] at rv;exact yes rv.inv_t hk
      ·rw [e1] at rv;exact no (fun t ht=>by rw [rv.inv_t] at ht;cases ht;rfl) hk
      ·rw [e1] at rv;cases rv;exact no (fun t ht=>by simp at ht) hk
     | false=>
      rw [if_neg (by simp)] at hm
      rcases guardF_true hm with ⟨e1,hk⟩ | ⟨e1 | ⟨_,_,e1⟩,hk⟩
      ·rw [e1] at rv;exact yes rv.inv_t hk
      ·rw [e1] at rv;exact no (fun t ht=>by rw [rv.inv_t] at ht;cases ht;rfl) hk
      ·rw [e1] at rv;cases rv;exact no (fun t ht=>by simp at ht) hk
theorem wpAny_ok (hcf:CallS P G cf) (hf:∀ r,CallFrm r cf) {Q:Exit→Act→World→Prop} {QK:TL→L8→H→Prop} (hQK:Resp N QK) {L0:List Od} (hL0:∀ x,x∈L0→∀ j,Nat.testBit x.m j=true→∃ i,i∈afterB ops x.i∧(j=i∨Nat.testBit (maskIn L0 i) j=true))
  (hcov:∀ j,j<ops.size→∃ x,x∈L0∧x.i=j) (hinj:∀ x y,x∈L0→y∈L0→x.i=y.i→x=y) {n0:Nat} (hb:n0≤b) :
  ∀ (fuel:Nat) {L:List Od} {S:Od→Prop} {listed:Array Bool} {ρ:TL} {e:L8} {h:H} {φ:Phi} {w:World} {a:Act},L.length=fuel→L.Sublist L0→Sta P ops L→Suc P G cf N ops b QK L S ρ e h→listed.size=ops.size→
   (∀ j,j<ops.size→(listed.getD j true=false↔∃ x,x∈L∧x.i=j))→(∀ x,x∈L0→x∉L→∀ j,Nat.testBit x.m j=true→∀ z,z∈L→z.i≠j)→Fit P ops S L→
   (∀ x,x∈L→clD P ops x.i=.a→Kept (Nat.add b x.r) h∧∀ u,φ (Nat.add b x.r) u=none)→(∀ x y,x∈L→y∈L→clD P ops x.i=.a→clD P ops y.i=.a→x.r≠y.r→cl (Nat.add b x.r)≠cl (Nat.add b y.r))→n0≤h.next→
   GlobOk P G φ→RE φ N ρ e a→Rel φ h w→(∀ ρ' e' h' φ' a' w',QK ρ' e' h'→RE φ' N ρ' e' a'→Rel φ' h' w'→Ext φ ⟨n0,h.tr⟩ w φ' h' w'→a'.defers=a.defers→Q .normal a' w')→
   wpAny P .any ops Q fuel listed a w:=by
 intro fuel
 induction fuel with
 | zero=>
  intro L S listed ρ e h φ w a hlen hsub hst s hsz hl hm hF hA hB hn hg r R hQ
  have:L=[]:=List.length_eq_zero_iff.1 hlen
  subst this
  unfold wpAny
  refine ⟨?_,hQ ρ e h φ a w s r R ((Ext.refl _ _ _).from hn) rfl⟩
  refine List.eq_nil_iff_forall_not_mem.2 fun i hi=>?_
  obtain ⟨h1,h2,_⟩:=mem_ready.1 hi
  obtain ⟨x,hx,_⟩:=(hl i h1).1 h2
  simp at hx
 | succ fuel ih=>
  intro L S listed ρ e h φ w a hlen hsub hst s hsz hl hm hF hA hB hn hg r R hQ
  have hN:=r.le
  unfold wpAny
  have lst:∀ j,j<ops.size→((∀ z,z∈L→z.i≠j)↔listed.getD j false=true):=fun j hj=>by
   have h1:listed.getD j true=listed.getD j false:=by
    simp [Array.getD,hsz,hj]
   rw [← h1]
   have:=hl j hj
   constructor
   ·intro hz
    cases hv:listed.getD j true with
    | true=>rfl
    | false=>obtain ⟨x,hx,e1⟩:=this.1 hv;exact absurd e1 (hz x hx)
   ·intro hv z hz e1
    have:=this.2 ⟨z,hz,e1⟩
    rw [hv] at this;simp at this
  constructor
  ·intro hr
   exfalso
   cases L with
   | nil=>simp at hlen
   | cons x rest=>
    have hx:=hst.one x (by simp)
    have:x.i∈Region.ready .any ops listed:=by
     refine mem_ready.2 ⟨hx.2.1,(hl x.i hx.2.1).2 ⟨x,by simp,rfl⟩,fun j hj=>?_⟩
     obtain ⟨q1,q2⟩:=hx.2.2 j hj
     refine (lst j q1).1 fun z hz=>?_
     rcases List.mem_cons.1 hz with rfl | hz
     ·exact fun e=>q2 e.symm
     ·exact fun e=>((List.pairwise_cons.1 hst.pw).1 z hz).2.2 j hj e.symm
    rw [hr] at this;simp at this
  ·intro i hi
   obtain ⟨h1,h2,h3⟩:=mem_ready.1 hi
   obtain ⟨y,hy,rfl⟩:=(hl i h1).1 h2
   obtain ⟨A,rr,rfl⟩:=List.append_of_mem hy
   have hy0:y∈L0:=hsub.subset hy
   have free:∀ z,z∈A++y::rr→Nat.testBit y.m z.i=false:=fun z hz=>by
    cases hbit:Nat.testBit y.m z.i with
    | false=>rfl
    | true=>
     exfalso
     obtain ⟨j,hj,hj2⟩:=hL0 y hy0 z.i hbit
     have hjs:=(hst.one y hy).2.2 j hj
     have hlj:=(lst j hjs.1).2 (h3 j hj)
     rcases hj2 with rfl | hj2
     ·exact hlj z hz rfl
     ·obtain ⟨x,hx,hxi,hxb⟩:=maskIn_some hj2
      have hxL:x∉A++y::rr:=fun k=>hlj x k hxi
      exact hm x hx hxL z.i hxb z hz rfl
   have hpw:=List.pairwise_append.1 hst.pw
   have hA1:∀ x,x∈A→PairOk P ops x y∧PairAll P ops x y:=fun x hx=>by
    have:=hpw.2.2 x hx y (by simp)
    refine ⟨?_,this.1⟩
    rcases this.2.1 with k | k
    ·rw [free x (by simp [hx])] at k;simp at k
    ·exact k
   have hr1:∀ z,z∈rr→PairAll P ops y z:=fun z hz=>((List.pairwise_cons.1 hpw.2.1).1 z hz).1
   have hpa:(A++y::rr).Pairwise (PairAll P ops):=hst.pw.imp fun h=>h.1
   have hyo:=(hst.one y hy).1
   have s2:=Suc.front hf hN hQK hyo (fun x hx=>(hA1 x hx).1) hpa (fun x hx=>(hst.one x (by simp [hx])).1)
    (fun x hx c1 c2=>hB x y (by simp [hx]) hy c1 c2 ((hA1 x hx).2.rr c1 c2)) hF (fun hc=>(hA y hy hc).1) s
   obtain ⟨v,h',g1,o1,c1,_,s3⟩:=s2
   let k:KV:=fun u h2=>@decide (u=v∧h2=h') (Classical.propDecidable _)
   have hk:goD P G cf N ops (Nat.add b y.r) y.i ρ e h k=true:=by rw [g1 k];simp [k]
   have sub':(A++rr).Sublist (A++y::rr):=List.Sublist.append_left (List.sublist_cons_self y rr) A
   refine goD_ok hcf hk hg r R hn (fun hc=>⟨Nat.le_trans hb (Nat.le_add_right _ _),(hA y hy hc).1.next,(hA y hy hc).2⟩) Q _ ?_
   rintro c w' ⟨u,h2,φ',hk2,rv,R',X,hφ⟩
   obtain ⟨rfl,rfl⟩ : u=v∧h2=h':=by simpa [k] using hk2
   have hput:∃ ρ' e',ρ'=pρ (dstR ops y.i) u ρ∧e'=pe N (dstR ops y.i) u e∧RE φ' N ρ' e' (a.put (dstR ops y.i) c):=by
    have hp:put N (dstR ops y.i) u ρ e (fun ρ' e'=>@decide (ρ'=pρ (dstR ops y.i) u ρ∧e'=pe N (dstR ops y.i) u e) (Classical.propDecidable _))=true:=by
     rw [put_eq hN o1];simp
    obtain ⟨ρ',e',q1,q2⟩:=(r.mono X.le).put hp rv
    have q1:ρ'=pρ (dstR ops y.i) u ρ∧e'=pe N (dstR ops y.i) u e:=by simpa using q1
    exact ⟨ρ',e',q1.1,q1.2,q2⟩
   obtain ⟨ρ',e',rfl,rfl,r'⟩:=hput
   have yne:∀ z,z∈A++rr→z.i≠y.i:=fun z hz=>by
    rcases List.mem_append.1 hz with k | k
    ·exact (hA1 z k).2.ne
    ·exact fun e=>(hr1 z k).ne e.symm
   refine ih (by simp at hlen ⊢;omega) (sub'.trans hsub) (hst.sub sub') s3 (by simp [hsz]) (fun j hj=>?_) (fun x hx hxL j hj z hz=>?_) (hF.pick hyo hA1 hr1) (fun x hx hc=>?_)
    (fun x z hx hz=>hB x z (sub'.subset hx) (sub'.subset hz)) X.next (hg.mono X.le) r' R' (fun ρ2 e2 h3 φ2 a2 w2 q r2 R2 X2 hd=>hQ ρ2 e2 h3 φ2 a2 w2 q r2 R2 ?_ (hd.trans ?_))
   ·by_cases hjy:j=y.i
    ·subst hjy
     constructor
     ·intro hv
      simp [Array.getD,hsz,h1] at hv
     ·rintro ⟨x,hx,e1⟩;exact absurd e1 (yne x hx)
    ·have e1:(listed.setIfInBounds y.i true).getD j true=listed.getD j true:=by
      simp only [Array.getD_eq_getD_getElem?]
      rw [Array.getElem?_setIfInBounds_ne (fun k=>hjy k.symm)]
     rw [e1,hl j hj]
     constructor
     ·rintro ⟨x,hx,e2⟩
      refine ⟨x,?_,e2⟩
      rcases List.mem_append.1 hx with k | k
      ·exact List.mem_append_left _ k
      ·rcases List.mem_cons.1 k with rfl | k
       ·exact absurd e2.symm hjy
       ·exact List.mem_append_right _ k
     ·rintro ⟨x,hx,e2⟩;exact ⟨x,sub'.subset hx,e2⟩
   ·by_cases hxy:x∈A++y::rr
    ·have:x=y:=by
      rcases List.mem_append.1 hxy with k | k
      ·exact absurd (List.mem_append_left _ k) hxL
      ·rcases List.mem_cons.1 k with k | k
       ·exact k
       ·exact absurd (List.mem_append_right _ k) hxL
     subst this
     intro e1
     have:=free z (sub'.subset hz)
     rw [e1,hj] at this;simp at this
    ·exact hm x hx hxy j hj z (sub'.subset hz)
   ·obtain ⟨q1,q2⟩:=hA x (sub'.subset hx) hc
    have hne:clD P ops y.i=.a→cl (Nat.add b y.r)≠cl (Nat.add b x.r):=fun hcy=>by
     rcases List.mem_append.1 hx with k | k
     ·exact fun e=>hB x y (sub'.subset hx) hy hc hcy ((hA1 x k).2.rr hc hcy) e.symm
     ·exact hB y x hy (sub'.subset hx) hcy hc ((hr1 x k).rr hcy hc)
    refine ⟨(go_frm (hf _) hne q1 g1).1,hφ _ q1.next q1.nb (fun hcy e1=>hne hcy (by rw [e1])) q2⟩
   ·exact (Ext.trans (t':=⟨n0,h2.tr⟩) ⟨X.le,X.os,X.tape,X.output,X.size,Nat.le_refl _,X.own,X.vis,X.frame,X.dead⟩ X2)
   ·cases dstR ops y.i <;> rfl
theorem draw_ok (hmix:P.follows .mixedOrders=true) (hcf:CallS P G cf) (hr:CallRet cf) (hf:∀ r,CallFrm r cf) {n:Nat} {L:List Od} (hchk:chkR P ops L=true) (hok:L.all (okD P ops n)=true) {rid:Nat} {ρ:TL} {e:L8} {h:H} {K:KT}
  (hm:(resv n h fun b h'=>runD P G cf N ops b L ρ e h' K)=true) {φ:Phi} {w:World} {a:Act} (hg:GlobOk P G φ) (r:RE φ N ρ e a) (R:Rel φ h w) (Q:Exit→Act→World→Prop)
  (hQ:∀ ρ' e' h' φ' a' w',K ρ' e' h'=true→RE φ' N ρ' e' a'→Rel φ' h' w'→Ext φ h w φ' h' w'→a'.defers=a.defers→Q .normal a' w'):(Code.region rid ops true).wp P Q a w:=by
 simp only [chkR,Bool.and_eq_true,List.all_eq_true] at hchk
 obtain ⟨⟨⟨c1,c2⟩,c3⟩,c4⟩:=hchk
 have sta:=restB_true c2
 obtain ⟨e1,hm⟩:=both_true hm
 have e1:0≤h.next+n:=ble_true e1
 have hQK:Resp N (fun ρ e h=>∃ ρ0,Eqv N ρ0 ρ∧K ρ0 e h=true):=fun ρ ρ' e h hr ⟨ρ0,h1,h2⟩=>⟨ρ0,fun t e=>(h1 t e).trans (hr t e),h2⟩
 have kept:∀ q,q<n→Kept (Nat.add h.next q) ⟨Nat.add h.next n,h.tr⟩∧∀ u,φ (h.next+q) u=none:=fun q hl=>by
  have none:∀ u,φ (h.next+q) u=none:=fun u=>by
   cases e:φ (h.next+q) u with
   | none=>rfl
   | some m=>have:=(R.dom _ u m e).1;omega
  refine ⟨⟨by show 0≤h.next+q;omega,by show h.next+q<h.next+n;omega,?_⟩,none⟩
  have:=R.blk (h.next+q) (by omega)
  show hget (h.next+q) h.tr=_
  cases e:hget (h.next+q) h.tr with
  | nb=>rfl
  | mp _=>
   rw [e] at this
   obtain ⟨m,_,_,e2,_⟩:=this
   rw [none] at e2;simp at e2
  | it _ _ _=>
   rw [e] at this
   obtain ⟨m,_,e2,_⟩:=this
   rw [none] at e2;simp at e2
  | pin _ _ _=>
   rw [e] at this
   obtain ⟨m,_,_,e2,_⟩:=this
   rw [none] at e2;simp at e2
  | bk c size ver frz elem ex own=>
   rw [e] at this
   obtain ⟨m,_,_,e2,_⟩:=this
   rw [none] at e2;simp at e2
 have s:=runD_suc (S:=fun _=>False) hr hf r.le (sta.pw.imp fun h=>h.1) (fun x hx=>(sta.one x hx).1) (fun x hx hc q hq=>(kept q (Nat.lt_of_not_le fun hle=>by
  have:=List.all_eq_true.1 hok x hx
  unfold okD at this
  rw [Bool.and_eq_true] at this
  have h1:=this.1
  rw [hc] at h1
  have h2:x.r<2 ^ n:=ble_true h1
  have h3:2 ^ q≤x.r:=Nat.ge_two_pow_of_testBit hq
  have h4:2 ^ n≤2 ^ q:=Nat.pow_le_pow_right (by omega) hle
  omega)).1) hm
 have inj:∀ {l:List Od},l.Pairwise (fun x y=>x.i≠y.i)→∀ x y,x∈l→y∈l→x.i=y.i→x=y:=by
  intro l
  induction l with
  | nil=>intro _ x y hx;simp at hx
  | cons z t iht=>
   intro hp x y hx hy e
   obtain ⟨p1,p2⟩:=List.pairwise_cons.1 hp
   rcases List.mem_cons.1 hx with hx1 | hx1 <;> rcases List.mem_cons.1 hy with hy1 | hy1
   ·rw [hx1,hy1]
   ·exact absurd (hx1 ▸ e) (p1 y hy1)
   ·exact absurd (hy1 ▸ e.symm) (p1 x hx1)
   ·exact iht p2 x y hx1 hy1 e
 have hlt:∀ x,x∈L→clD P ops x.i=.a→x.r<n:=fun x hx hc=>by
  have:=List.all_eq_true.1 hok x hx
  unfold okD at this
  rw [Bool.and_eq_true] at this
  have h1:=this.1
  rw [hc] at h1
  exact ble_true h1
 have wd:Rel φ h { w with drawn:=w.drawn+1 }:=⟨R.next,R.dom,R.blk,R.apart⟩
 refine wp_region_any hmix ?_
 refine wpAny_ok (b:=h.next) (n0:=h.next) hcf hf hQK (L0:=L) (fun x hx j hj=>?_) (fun j hj=>?_) (inj (sta.pw.imp fun h=>h.1.ne)) (Nat.le_refl _) ops.size (L:=L) (S:=fun _=>False) (beq_true c1) (List.Sublist.refl _) sta s (by simp) (fun j hj=>?_) (fun x hx hn=>absurd hx hn)
  (fun l hl=>hl.elim) (fun x hx hc=>?_) (fun x y hx hy c1 c2 hne=>?_) (by show h.next≤h.next+n;omega) hg r (wd.resv e1) (fun ρ' e' h' φ' a' w' ⟨ρ0,q1,q2⟩ r' R' X hd=>hQ ρ0 e' h' φ' a' w' q2 ?_ R' ?_ hd)
 ·have:=c4 x hx
  rcases orL_testBit (m:=maskIn L) (j:=j) (l:=afterB ops x.i) (n:=0) (by rw [← beq_true this];exact hj) with k | k
  ·simp at k
  ·exact k
 ·have:=c3 j (by simpa using hj)
  simp only [List.any_eq_true] at this
  obtain ⟨x,hx,e⟩:=this
  exact ⟨x,hx,beq_true e⟩
 ·have:=c3 j (by simpa using hj)
  simp only [List.any_eq_true] at this
  obtain ⟨x,hx,e⟩:=this
  simp only [Array.getD,Array.size_replicate,hj,dif_pos]
  simp only [Array.getInternal_eq_getElem,Array.getElem_replicate,true_iff]
  exact ⟨x,hx,beq_true e⟩
 ·exact kept _ (hlt x hx hc)
 ·have h1:=hlt x hx c1;have h2:=hlt y hy c2
  show cl (h.next+x.r)≠cl (h.next+y.r)
  rw [cl_id (by omega),cl_id (by omega)];omega
 ·exact ⟨r'.size,r'.le,fun t ht=>by rw [q1 t e'];exact r'.at_ t ht⟩
 ·exact ⟨X.le,X.os,X.tape,X.output,X.size,X.next,X.own,X.vis,X.frame,X.dead⟩
end Go.Bvm
