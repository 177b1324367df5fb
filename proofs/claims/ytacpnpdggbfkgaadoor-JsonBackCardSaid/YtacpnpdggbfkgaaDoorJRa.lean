/- Functions run by the abstract machine on values that are not all known. Conditions: stated in each theorem. -/
import Derived.Test.YtacpnpdggbfkgaaDoorBvm5
import Derived.ProofKit
import Derived.DataReads
set_option linter.unusedVariables false
set_option linter.unusedSimpArgs false
set_option linter.unusedVariables false
namespace Go.Bvm
theorem add_flat (a:Addr) (h:a.spot=none) (i:Nat):a.add i=⟨a.block,a.off+i,none⟩:=by
 unfold Addr.add
 split
 ·rename_i e
  subst e
  cases a
  simp at h
  simp [h]
 ·rfl
theorem slice_cells {w:World} {a:Addr} {n cap:Nat} (hn:1≤n) (hc:0<cap) (h:∀ i,i<cap→∃ l,w.cells? 0 (a.add (i*n)) n=some l) :
  ∃ cs el fr,w.heap[a.block]?=some (.cells cs el fr)∧a.spot=none∧a.off+cap*n≤cs.size∧∀ i l,i<cap→w.cells? 0 (a.add (i*n)) n=some l→l.length=n∧∀ j,j<n→cs[a.off+i*n+j]?=l[j]?:=by
 obtain ⟨l0,h0⟩:=h 0 hc
 have h0':=World.cells?_some h0
 have e0:(a.add (0*n)).add 0=a:=by rw [Nat.zero_mul];rfl
 have c0:=h0'.2.2 0 (by omega)
 rw [e0] at c0
 have hl0:l0[0]?=some (l0[0]'(by rw [h0'.2.1];omega)):=List.getElem?_eq_getElem _
 rw [hl0] at c0
 unfold World.cell? at c0
 cases hh:w.heap[a.block]? with
 | none=>rw [hh] at c0;simp at c0
 | some ob=>
  rw [hh] at c0
  cases ob with
  | cells cs el fr=>
   dsimp only at c0
   have hs:a.spot=none:=by
    cases e:a.spot with
    | none=>rfl
    | some s=>rw [e] at c0;simp at c0
   have get:∀ i l,i<cap→w.cells? 0 (a.add (i*n)) n=some l→l.length=n∧∀ j,j<n→cs[a.off+i*n+j]?=l[j]?:=by
    intro i l hi hl
    have q:=World.cells?_some hl
    refine ⟨q.2.1,fun j hj=>?_⟩
    rw [← q.2.2 j hj,add_flat a hs,add_flat _ rfl]
    unfold World.cell?
    rw [hh]
    rfl
   refine ⟨cs,el,fr,rfl,hs,?_,get⟩
   obtain ⟨l,hl⟩:=h (cap-1) (by omega)
   obtain ⟨q1,q2⟩:=get (cap-1) l (by omega) hl
   have q3:=q2 (n-1) (by omega)
   rw [List.getElem?_eq_getElem (by omega)] at q3
   have:a.off+(cap-1)*n+(n-1)<cs.size:=by
    rcases Nat.lt_or_ge (a.off+(cap-1)*n+(n-1)) cs.size with q | q
    ·exact q
    ·rw [Array.getElem?_eq_none q] at q3;simp at q3
   have e:cap*n=(cap-1)*n+n:=by rw [← Nat.succ_mul];congr 1;omega
   omega
  | _=>simp at c0
end Go.Bvm
set_option linter.unusedVariables false
namespace Go.Bvm
theorem flat_get {n:Nat} (hn:1≤n) {cs:List (List V)} (h:∀ c∈cs,c.length=n) {k:Nat} (hk:k<cs.length*n):∃ c,cs[k / n]?=some c∧cs.flatten[k]?=c[k % n]?:=by
 have hi:k / n<cs.length:=(Nat.div_lt_iff_lt_mul (by omega)).2 hk
 refine ⟨cs[k / n],List.getElem?_eq_getElem hi,?_⟩
 have e:=flat_at (k / n) h (List.getElem?_eq_getElem hi)
 have hm:k % n<n:=Nat.mod_lt _ (by omega)
 have hd:k / n*n+k % n=k:=by rw [Nat.mul_comm];exact Nat.div_add_mod k n
 rw [← e,List.getElem?_take_of_lt hm,List.getElem?_drop,hd]
theorem imp_slice {φ:Phi} {h:H} {w:World} (R:Rel φ h w) (F:FO h) {a:Addr} {len cap n:Nat} (hn:1≤n) (hlc:len≤cap) (hcap:0<cap) (hr:∀ i,i<cap→∃ l,w.cells? 0 (a.add (i*n)) n=some l) {vss:List (List V)} (hv:vss.length=len) (hl:∀ c∈vss,c.length=n)
  (hrv:∀ (i:Nat) (c:List V) (l:List Value),vss[i]?=some c→w.cells? 0 (a.add (i*n)) n=some l→∀ (j:Nat) (x:V) (v:Value),c[j]?=some x→l[j]?=some v→RV φ x v∧v.oneCell'=true) :
  ∃ φ' h',Rel φ' h' w∧φ.le φ'∧FO h'∧h'.next=h.next+1∧Only h h' h.next∧RV φ' (.sl h.next 0 len 0 n) (.slice (some a) len cap)∧∀ (A:List Nat) (ty:Nat),h.next∉A→len≤maxB→Row A h' (.sl h.next 0 len 0 n) ty n vss:=by
 obtain ⟨cs,el,fr,q1,q2,q3,q4⟩:=slice_cells hn hcap hr
 have hfl:=flat_len hl
 have hle:len*n≤cap*n:=Nat.mul_le_mul_right _ hlc
 obtain ⟨φ',h',R',le,F',p1,B',n',o'⟩:=R.imp F (vs:=vss.flatten) (B:=a.block) (o:=a.off) q1 (by rw [hfl,hv];omega) (fun k hk=>by
  rw [hfl] at hk
  obtain ⟨c,c1,c2⟩:=flat_get hn hl hk
  have hi:k / n<vss.length:=(Nat.div_lt_iff_lt_mul (by omega)).2 hk
  have hm:k % n<n:=Nat.mod_lt _ (by omega)
  have hd:k / n*n+k % n=k:=by rw [Nat.mul_comm];exact Nat.div_add_mod k n
  obtain ⟨l,hl2⟩:=hr (k / n) (by omega)
  obtain ⟨l1,l2⟩:=q4 (k / n) l (by omega) hl2
  have l3:=l2 (k % n) hm
  rw [Nat.add_assoc,hd] at l3
  have hcl:c.length=n:=hl c (List.mem_of_getElem? c1)
  have hx:c[k % n]?=some (c[k % n]'(by omega)):=List.getElem?_eq_getElem _
  have hy:l[k % n]?=some (l[k % n]'(by omega)):=List.getElem?_eq_getElem _
  obtain ⟨r1,r2⟩:=hrv _ c l c1 hl2 _ _ _ hx hy
  refine ⟨_,by rw [l3,hy],?_,r2⟩
  have e:vss.flatten[k]'(by rw [hfl];exact hk)=c[k % n]'(by omega):=by
   have:=List.getElem?_eq_getElem (l:=vss.flatten) (i:=k) (by rw [hfl];exact hk)
   rw [c2,hx] at this
   exact (Option.some.inj this).symm
  rw [e];exact r1)
 refine ⟨φ',h',R',le,F',n',o',?_,fun A ty hA hm=>?_⟩
 ·have ea:a=⟨a.block,a.off,none⟩:=by cases a;simp at q2;simp [q2]
  rw [ea]
  refine RV.sl (l:=⟨a.block,a.off,vss.flatten.length,cs.size⟩) p1 (by show 0+len*n≤vss.flatten.length;rw [hfl,hv];omega) hlc (fun _=>rfl) (by show a.off+0+cap*n≤cs.size;omega)
 ·refine ⟨hl,by rw [hv];exact hm,.inr ⟨h.next,0,0,0,false,false,_,by rw [hv],⟨by omega,hA⟩,⟨el,B',fun q=>by simp at q⟩,by rw [hfl];omega,by rw [List.drop_zero,List.take_of_length_le (by rw [hfl];exact Nat.le_refl _)]⟩⟩
end Go.Bvm
set_option linter.unusedVariables false
namespace Go.Bvm
def Keep (h h':H):Prop:=h.next≤h'.next∧∀ i,i<h.next→hget i h'.tr=hget i h.tr
theorem Keep.refl (h:H):Keep h h:=⟨Nat.le_refl _,fun _ _=>rfl⟩
theorem Keep.trans {h h1 h2:H} (a:Keep h h1) (b:Keep h1 h2):Keep h h2:=⟨Nat.le_trans a.1 b.1,fun i hi=>(b.2 i (Nat.lt_of_lt_of_le hi a.1)).trans (a.2 i hi)⟩
def RVs (φ:Phi) (c:List V) (l:List Value):Prop:=c.length=l.length∧∀ (j:Nat) (x:V) (v:Value),c[j]?=some x→l[j]?=some v→RV φ x v∧v.oneCell'=true
theorem RVs.mono {φ ψ:Phi} {c:List V} {l:List Value} (r:RVs φ c l) (h:φ.le ψ):RVs ψ c l:=⟨r.1,fun j x v a b=>let ⟨p,q⟩:=r.2 j x v a b;⟨p.mono h,q⟩⟩
def Imp {α:Type} [Enc α] (w:World) (l:List Value) (x:α):Prop:=∀ (φ:Phi) (h:H),Rel φ h w→FO h→∃ φ' h' c,Rel φ' h' w∧φ.le φ'∧FO h'∧Keep h h'∧RVs φ' c l∧Enc.rep [] h' c x
theorem imp_list {α:Type} [Enc α] {w:World}:∀ (ls:List (List Value)) (xs:List α),ls.length=xs.length→(∀ (i:Nat) (l:List Value) (x:α),ls[i]?=some l→xs[i]?=some x→Imp w l x)→∀ (φ:Phi) (h:H),Rel φ h w→FO h→
  ∃ φ' h' vss,Rel φ' h' w∧φ.le φ'∧FO h'∧Keep h h'∧All [] h' vss xs∧∀ (i:Nat) (c:List V) (l:List Value),vss[i]?=some c→ls[i]?=some l→RVs φ' c l
 | [],[],_,_,φ,h,R,F=>⟨φ,h,[],R,φ.le_refl,F,.refl h,.nil _ _,fun i c l e=>by simp at e⟩
 | [],x::xs,e,_,_,_,_,_=>by simp at e
 | l::ls,[],e,_,_,_,_,_=>by simp at e
 | l::ls,x::xs,e,H0,φ,h,R,F=>by
  obtain ⟨φ1,h1,c,R1,le1,F1,K1,r1,E1⟩:=H0 0 l x rfl rfl φ h R F
  obtain ⟨φ2,h2,vss,R2,le2,F2,K2,A2,r2⟩:=imp_list ls xs (by simpa using e) (fun i l x a b=>H0 (i+1) l x a b) φ1 h1 R1 F1
  refine ⟨φ2,h2,c::vss,R2,Phi.le_trans le1 le2,F2,K1.trans K2,⟨by have:=A2.1;simpa using this,fun i d y e1 e2=>?_⟩,fun i d m e1 e2=>?_⟩
  ·cases i with
   | zero=>
    simp at e1 e2
    subst e1 e2
    exact Enc.gx E1 K2.1 fun id hi _ _=>K2.2 id hi
   | succ i=>exact A2.2 i d y e1 e2
  ·cases i with
   | zero=>
    simp at e1 e2
    subst e1 e2
    exact r1.mono le2
   | succ i=>exact r2 i d m e1 e2
theorem imp_row {α:Type} [Enc α] {w:World} {a:Addr} {len cap:Nat} (hn:1≤Enc.n α) (hlc:len≤cap) (hcap:0<cap) (hr:∀ i,i<cap→∃ l,w.cells? 0 (a.add (i*Enc.n α)) (Enc.n α)=some l) {ls:List (List Value)} {xs:List α} (hls:ls.length=len) (hxs:xs.length=len) (hm:len≤maxB)
  (hl:∀ (i:Nat) (l:List Value),ls[i]?=some l→w.cells? 0 (a.add (i*Enc.n α)) (Enc.n α)=some l) (hi:∀ (i:Nat) (l:List Value) (x:α),ls[i]?=some l→xs[i]?=some x→Imp w l x) (φ:Phi) (h:H) (R:Rel φ h w) (F:FO h) :
  ∃ φ' h' v,Rel φ' h' w∧φ.le φ'∧FO h'∧Keep h h'∧RV φ' v (.slice (some a) len cap)∧Sl [] h' v xs:=by
 obtain ⟨φ1,h1,vss,R1,le1,F1,K1,A1,r1⟩:=imp_list ls xs (by rw [hls,hxs]) hi φ h R F
 have hvl:vss.length=len:=by rw [A1.1,hxs]
 have hcl:∀ c∈vss,c.length=Enc.n α:=fun c hc=>by
  obtain ⟨i,hi2⟩:=List.mem_iff_getElem?.1 hc
  have hlt:i<vss.length:=by
   rcases Nat.lt_or_ge i vss.length with q | q
   ·exact q
   ·rw [List.getElem?_eq_none q] at hi2;simp at hi2
  exact Enc.len (A1.2 i c (xs[i]'(by omega)) hi2 (List.getElem?_eq_getElem (by omega)))
 obtain ⟨φ2,h2,R2,le2,F2,n2,o2,rv2,row⟩:=imp_slice R1 F1 hn hlc hcap hr hvl hcl (fun i c l e1 e2=>by
  have hlt:i<vss.length:=by
   rcases Nat.lt_or_ge i vss.length with q | q
   ·exact q
   ·rw [List.getElem?_eq_none q] at e1;simp at e1
  have hli:ls[i]?=some (ls[i]'(by omega)):=List.getElem?_eq_getElem (by omega)
  have:=hl i _ hli
  rw [e2] at this
  have e3:l=ls[i]'(by omega):=Option.some.inj this
  exact (r1 i c l e1 (by rw [e3];exact hli)).2)
 have K2:Keep h1 h2:=⟨by omega,fun i hi=>o2.2 i (by omega)⟩
 exact ⟨φ2,h2,_,R2,Phi.le_trans le1 le2,F2,K1.trans K2,rv2,vss,row [] _ (by simp) hm,A1.gx K2.1 fun id hi _ _=>K2.2 id hi⟩
end Go.Bvm
set_option linter.unusedVariables false
set_option maxRecDepth 100000
namespace Go.Bvm.JN
noncomputable section
abbrev Nf_l1_JsonBack:Nat:=4
abbrev Nf_l1_Heavy:Nat:=8
abbrev Nf_l0_Within:Nat:=9
abbrev Nf_j_Read:Nat:=10
abbrev Nf_r_Read:Nat:=11
abbrev Nf_l1_num:Nat:=12
abbrev Nf_z_EqJsons:Nat:=13
abbrev Nf_l1_wakes:Nat:=15
abbrev Nf_l1_values:Nat:=16
abbrev Nf_j_Write:Nat:=17
abbrev Nf_l1_slashes:Nat:=18
abbrev Nf_l1_cellsOf:Nat:=20
abbrev Nf_l0_JsonsWeight:Nat:=21
abbrev Nf_j_parser_value:Nat:=22
abbrev Nf_j_parser_blanks:Nat:=23
abbrev Nf_j_parser_bad:Nat:=24
abbrev Nf_r_reader_blanks:Nat:=25
abbrev Nf_r_reader_value:Nat:=26
abbrev Nf_r_reader_fails:Nat:=27
abbrev Nf_z_EqJson:Nat:=28
abbrev Nf_z_CopyJsons:Nat:=30
abbrev Nf_j_May:Nat:=31
abbrev Nf_j_Text:Nat:=32
abbrev Nf_l0_Texts:Nat:=33
abbrev Nf_j_parser_see:Nat:=34
abbrev Nf_j_parser_nested:Nat:=35
abbrev Nf_j_parser_begin:Nat:=36
abbrev Nf_j_parser_text:Nat:=37
abbrev Nf_j_digit:Nat:=38
abbrev Nf_j_parser_number:Nat:=39
abbrev Nf_st_IndexByte:Nat:=40
abbrev Nf_j_parser_literal:Nat:=41
abbrev Nf_j_parser_add:Nat:=42
abbrev Nf_r_reader_see:Nat:=43
abbrev Nf_r_reader_word:Nat:=44
abbrev Nf_r_reader_text:Nat:=45
abbrev Nf_r_reader_add:Nat:=46
abbrev Nf_r_reader_many:Nat:=47
abbrev Nf_r_Int:Nat:=48
abbrev Nf_z_EqStrings:Nat:=49
abbrev Nf_z_EqNumbers:Nat:=50
abbrev Nf_z_CopyJson:Nat:=51
abbrev Nf_j_node:Nat:=52
abbrev Nf_j_shaped:Nat:=53
abbrev Nf_j_spell:Nat:=54
abbrev Nf_st_Builder_String:Nat:=55
abbrev Nf_j_parser_take:Nat:=56
abbrev Nf_j_parser_list:Nat:=57
abbrev Nf_j_parser_pairs:Nat:=58
abbrev Nf_j_String:Nat:=59
abbrev Nf_j_Number:Nat:=60
abbrev Nf_sl_IndexByte:Nat:=61
abbrev Nf_r_reader_takes:Nat:=62
abbrev Nf_z_Has:Nat:=63
abbrev Nf_z_CopyStrings:Nat:=64
abbrev Nf_z_CopyNumbers:Nat:=65
abbrev Nf_j_same:Nat:=66
abbrev Nf_j_IsNum:Nat:=67
abbrev Nf_j_Plain:Nat:=68
abbrev Nf_j_node_1:Nat:=69
abbrev Nf_sli_ContainsFunc___string_string:Nat:=70
abbrev Nf_j_twice:Nat:=71
abbrev Nf_st_Builder_WriteString:Nat:=73
abbrev Nf_sc_Itoa:Nat:=74
abbrev Nf_j_quoted:Nat:=75
abbrev Nf_st_Builder_WriteByte:Nat:=76
abbrev Nf_j_parser_name:Nat:=77
abbrev Nf_st_HasPrefix:Nat:=78
abbrev Nf_ba_IndexByteString:Nat:=79
abbrev Nf_j_Plain_1:Nat:=80
abbrev Nf_st_ContainsFunc:Nat:=81
abbrev Nf_sli_IndexFunc___string_string:Nat:=82
abbrev Nf_sli_Contains___string_string:Nat:=83
abbrev Nf_st_Builder_copyCheck:Nat:=85
abbrev Nf_sl_HasPrefix:Nat:=87
abbrev Nf_st_IndexFunc:Nat:=88
abbrev Nf_sli_Index___string_string:Nat:=89
abbrev Nf_abi_NoEscape:Nat:=90
abbrev Nf_st_indexFunc:Nat:=92
abbrev Ty_int:Nat:=3
abbrev Ty_bool:Nat:=4
abbrev Ty_uint8:Nat:=5
abbrev Ty_string:Nat:=9
abbrev Ty_Sl_string:Nat:=22
abbrev Ty_Sl_Sl_api_Json:Nat:=23
abbrev Ty_amanuensislaw1_Ask:Nat:=25
abbrev Ty_Sl_api_Json:Nat:=28
abbrev Ty_json_parser:Nat:=49
abbrev Ty_amanuensisref1_reader:Nat:=54
abbrev Ty_Sl_int:Nat:=58
abbrev Ty_api_Json:Nat:=60
abbrev Ty_json_shape:Nat:=85
abbrev Ty_strings_Builder:Nat:=90
abbrev Pg:Nat:=1
end
end Go.Bvm.JN
set_option linter.unusedVariables false
set_option maxRecDepth 10000
namespace Go.Bvm.JN
open Go.Bvm
abbrev Str:=List UInt8
theorem mem_of {k:Nat} {A B:List Nat} (h:k∈A) (s:A.all (fun x=>B.contains x)=true):k∈B:=by
 have:=List.all_eq_true.1 s k h
 simpa using this
structure api_Json where
 Kind:Int
 N:Int
 S:Str
 Keys:List Str
 Parts:List Int
structure json_parser where
 s:Str
 i:Int
 l:List api_Json
 begun:Int
 depth:Int
 e:Int
 at_:Int
structure amanuensisref1_reader where
 s:Str
 at_:Int
 l:List api_Json
 begun:Int
 err:Int
 where_:Int
instance:Enc Int:=⟨1,Ty_int,[],fun X h c x=>c=[wz x]∧inR x,fun r=>by obtain ⟨e,f0⟩:=r;rw [e];rfl,fun r _ _=>r,fun r _=>r⟩
instance:Enc Str:=⟨1,Ty_string,[],fun X h c x=>c=[vs x]∧x.length≤maxB,fun r=>by obtain ⟨e,f0⟩:=r;rw [e];rfl,fun r _ _=>r,fun r _=>r⟩
instance:Enc UInt8:=⟨1,Ty_uint8,[],fun X h c x=>c=[vy x],fun r=>by rw [r];rfl,fun r _ _=>r,fun r _=>r⟩
instance:Enc Bool:=⟨1,Ty_bool,[],fun X h c x=>c=[V.t x],fun r=>by rw [r];rfl,fun r _ _=>r,fun r _=>r⟩
instance:Enc api_Json:=⟨5,Ty_api_Json,[0,kR Ty_string,kO Ty_string,kR Ty_int,kO Ty_int],fun X h c x=>∃ v1 v2,c=[wz x.Kind,wz x.N,vs x.S,v1,v2]∧inR x.Kind∧inR x.N∧x.S.length≤maxB∧SlO X 0 h v1 x.Keys∧SlO X 0 h v2 x.Parts,fun r=>by obtain ⟨v1,v2,e,f0,f1,f2,f3,f4⟩:=r;rw [e];rfl,fun r n1 F=>by obtain ⟨v1,v2,e,f0,f1,f2,f3,f4⟩:=r;exact ⟨v1,v2,e,f0,f1,f2,f3.gx n1 fun id a b c=>F id a b (mem_of c (by decide)),f4.gx n1 fun id a b c=>F id a b (mem_of c (by decide))⟩,fun r hx=>by obtain ⟨v1,v2,e,f0,f1,f2,f3,f4⟩:=r;exact ⟨v1,v2,e,f0,f1,f2,f3.xm hx,f4.xm hx⟩⟩
theorem at_Int {X:List Nat} {h:H} {v:V} {xs:List Int} (S:Sl X h v xs) {i:Nat} (hi:i<xs.length):(inR xs[i])∧(∀ k,iadV 1 v (wz (i:Int)) k=k (pel v (i:Int) 0))∧(∀ k,ld1 (pel v (i:Int) 0) h k=k (wz xs[i])):=by
 obtain ⟨c,⟨rfl,f0⟩,a1,a2,a3⟩:=S.at (i:=(i:Int)) (Int.natCast_nonneg i) (getE? (show (i:Int).toNat<xs.length from hi))
 exact ⟨f0,a1,fun k=>a2 0 k (by decide)⟩
theorem at_Str {X:List Nat} {h:H} {v:V} {xs:List Str} (S:Sl X h v xs) {i:Nat} (hi:i<xs.length):(xs[i].length≤maxB)∧(∀ k,iadV 1 v (wz (i:Int)) k=k (pel v (i:Int) 0))∧(∀ k,ld1 (pel v (i:Int) 0) h k=k (vs xs[i])):=by
 obtain ⟨c,⟨rfl,f0⟩,a1,a2,a3⟩:=S.at (i:=(i:Int)) (Int.natCast_nonneg i) (getE? (show (i:Int).toNat<xs.length from hi))
 exact ⟨f0,a1,fun k=>a2 0 k (by decide)⟩
def json_parserO (X:List Nat) (c:Nat) (h:H) (p:Nat) (x:json_parser):Prop:=(p<h.next∧c≤p)∧(p∉X∧∀ j,j∈X→j<h.next)∧∃ v1,Bk h p 0 0 Ty_json_parser true true [vs x.s,wz x.i,v1,wz x.begun,wz x.depth,wz x.e,wz x.at_]∧x.s.length≤maxB∧inR x.i∧SlO X c h v1 x.l∧inR x.begun∧inR x.depth∧inR x.e∧inR x.at_
abbrev json_parserK:List Nat:=[kO Ty_json_parser,0,kR Ty_api_Json,kR Ty_string,kO Ty_string,kR Ty_int,kO Ty_int]
theorem json_parserO.gx {X:List Nat} {c:Nat} {h h':H} {p:Nat} {x:json_parser} (P:json_parserO X c h p x) (n1:h.next≤h'.next) (F:∀ id,id<h.next→id∉X→kd (hget id h.tr)∈json_parserK→hget id h'.tr=hget id h.tr):json_parserO X c h' p x:=by
 obtain ⟨hp,hX,v1,B,f0,f1,f2,f3,f4,f5,f6⟩:=P
 exact ⟨⟨Nat.lt_of_lt_of_le hp.1 n1,hp.2⟩,⟨hX.1,fun j hj=>Nat.lt_of_lt_of_le (hX.2 j hj) n1⟩,v1,B.eq (F p hp.1 hX.1 (by rw [B.kd];exact List.mem_cons_self)),f0,f1,f2.gx n1 fun id a b c=>F id a b (mem_of c (by decide)),f3,f4,f5,f6⟩
theorem json_parserO.fz {X:List Nat} {c a b:Nat} {M:List Nat} {h h':H} {p:Nat} {x:json_parser} (P:json_parserO X c h p x) (F:Fz a b M h h') (hb:h.next≤b) (d:∀ k,k∈json_parserK→k∉M):json_parserO X c h' p x:=P.gx F.nx fun id hi _ hk=>F.hi id (by omega) (d _ hk)
theorem json_parserO.gxx {X X':List Nat} {c:Nat} {h h':H} {p:Nat} {x:json_parser} (P:json_parserO X c h p x) (n1:h.next≤h'.next) (hx:∀ i,i∈X'→i∉X→h.next≤i) (hX':∀ j,j∈X'→j<h'.next) (F:∀ id,id<h.next→id∉X→kd (hget id h.tr)∈json_parserK→hget id h'.tr=hget id h.tr):json_parserO X' c h' p x:=by
 have Q:=P.gx n1 F
 obtain ⟨hp,hX,v1,B,f0,f1,f2,f3,f4,f5,f6⟩:=P
 obtain ⟨hq,_,Q⟩:=Q
 have F':∀ id,id<h.next→id∉X'→id∉X→True:=fun _ _ _ _=>trivial
 exact ⟨hq,⟨fun k=>by have:=hx p k hX.1;omega,hX'⟩,v1,B.eq (F p hp.1 hX.1 (by rw [B.kd];exact List.mem_cons_self)),f0,f1,f2.gxx n1 hx fun id a b c=>F id a b (mem_of c (by decide)),f3,f4,f5,f6⟩
theorem json_parserO.xm {X X':List Nat} {c:Nat} {h:H} {p:Nat} {x:json_parser} (P:json_parserO X c h p x) (hx:∀ i,i∈X'→i∉X→h.next≤i) (hX':∀ j,j∈X'→j<h.next):json_parserO X' c h p x:=by
 obtain ⟨hp,hX,v1,B,f0,f1,f2,f3,f4,f5,f6⟩:=P
 exact ⟨hp,⟨fun k=>by have:=hx p k hX.1;omega,hX'⟩,v1,B,f0,f1,f2.xm hx,f3,f4,f5,f6⟩
theorem json_parserO.st_i {X:List Nat} {c:Nat} {h:H} {p:Nat} {x:json_parser} {k:KV} (P:json_parserO X c h p x) {y:Int} (Y:inR y) (K:∀ h',json_parserO X c h' p { x with i:=y }→Fz c h.next [kO Ty_json_parser] h h'→k V.u h'=true):st true 1 (.p p 1 7 0) (wz y) h k=true:=by
 obtain ⟨hp,hX,v1,B,f0,f1,f2,f3,f4,f5,f6⟩:=P
 refine st_w B (show 1<7 by decide) (by decide) rfl fun h' n' B' o=>?_
 have F:Fz c h.next [kO Ty_json_parser] h h':=(Fz.refl c h.next _ h).put o hp.2 (.inr (by rw [B.kd];exact List.mem_cons_self))
 have hn:=Nat.le_refl h.next
 exact K h' ⟨⟨by omega,hp.2⟩,⟨hX.1,fun j hj=>by have:=hX.2 j hj;omega⟩,v1,B',f0,Y,f2.fz F hn (by decide),f3,f4,f5,f6⟩ F
theorem json_parserO.st_begun {X:List Nat} {c:Nat} {h:H} {p:Nat} {x:json_parser} {k:KV} (P:json_parserO X c h p x) {y:Int} (Y:inR y) (K:∀ h',json_parserO X c h' p { x with begun:=y }→Fz c h.next [kO Ty_json_parser] h h'→k V.u h'=true):st true 1 (.p p 3 7 0) (wz y) h k=true:=by
 obtain ⟨hp,hX,v1,B,f0,f1,f2,f3,f4,f5,f6⟩:=P
 refine st_w B (show 3<7 by decide) (by decide) rfl fun h' n' B' o=>?_
 have F:Fz c h.next [kO Ty_json_parser] h h':=(Fz.refl c h.next _ h).put o hp.2 (.inr (by rw [B.kd];exact List.mem_cons_self))
 have hn:=Nat.le_refl h.next
 exact K h' ⟨⟨by omega,hp.2⟩,⟨hX.1,fun j hj=>by have:=hX.2 j hj;omega⟩,v1,B',f0,f1,f2.fz F hn (by decide),Y,f4,f5,f6⟩ F
theorem json_parserO.st_depth {X:List Nat} {c:Nat} {h:H} {p:Nat} {x:json_parser} {k:KV} (P:json_parserO X c h p x) {y:Int} (Y:inR y) (K:∀ h',json_parserO X c h' p { x with depth:=y }→Fz c h.next [kO Ty_json_parser] h h'→k V.u h'=true):st true 1 (.p p 4 7 0) (wz y) h k=true:=by
 obtain ⟨hp,hX,v1,B,f0,f1,f2,f3,f4,f5,f6⟩:=P
 refine st_w B (show 4<7 by decide) (by decide) rfl fun h' n' B' o=>?_
 have F:Fz c h.next [kO Ty_json_parser] h h':=(Fz.refl c h.next _ h).put o hp.2 (.inr (by rw [B.kd];exact List.mem_cons_self))
 have hn:=Nat.le_refl h.next
 exact K h' ⟨⟨by omega,hp.2⟩,⟨hX.1,fun j hj=>by have:=hX.2 j hj;omega⟩,v1,B',f0,f1,f2.fz F hn (by decide),f3,Y,f5,f6⟩ F
theorem json_parserO.st_e {X:List Nat} {c:Nat} {h:H} {p:Nat} {x:json_parser} {k:KV} (P:json_parserO X c h p x) {y:Int} (Y:inR y) (K:∀ h',json_parserO X c h' p { x with e:=y }→Fz c h.next [kO Ty_json_parser] h h'→k V.u h'=true):st true 1 (.p p 5 7 0) (wz y) h k=true:=by
 obtain ⟨hp,hX,v1,B,f0,f1,f2,f3,f4,f5,f6⟩:=P
 refine st_w B (show 5<7 by decide) (by decide) rfl fun h' n' B' o=>?_
 have F:Fz c h.next [kO Ty_json_parser] h h':=(Fz.refl c h.next _ h).put o hp.2 (.inr (by rw [B.kd];exact List.mem_cons_self))
 have hn:=Nat.le_refl h.next
 exact K h' ⟨⟨by omega,hp.2⟩,⟨hX.1,fun j hj=>by have:=hX.2 j hj;omega⟩,v1,B',f0,f1,f2.fz F hn (by decide),f3,f4,Y,f6⟩ F
theorem json_parserO.st_at {X:List Nat} {c:Nat} {h:H} {p:Nat} {x:json_parser} {k:KV} (P:json_parserO X c h p x) {y:Int} (Y:inR y) (K:∀ h',json_parserO X c h' p { x with at_:=y }→Fz c h.next [kO Ty_json_parser] h h'→k V.u h'=true):st true 1 (.p p 6 7 0) (wz y) h k=true:=by
 obtain ⟨hp,hX,v1,B,f0,f1,f2,f3,f4,f5,f6⟩:=P
 refine st_w B (show 6<7 by decide) (by decide) rfl fun h' n' B' o=>?_
 have F:Fz c h.next [kO Ty_json_parser] h h':=(Fz.refl c h.next _ h).put o hp.2 (.inr (by rw [B.kd];exact List.mem_cons_self))
 have hn:=Nat.le_refl h.next
 exact K h' ⟨⟨by omega,hp.2⟩,⟨hX.1,fun j hj=>by have:=hX.2 j hj;omega⟩,v1,B',f0,f1,f2.fz F hn (by decide),f3,f4,f5,Y⟩ F
def amanuensisref1_readerO (X:List Nat) (c:Nat) (h:H) (p:Nat) (x:amanuensisref1_reader):Prop:=(p<h.next∧c≤p)∧(p∉X∧∀ j,j∈X→j<h.next)∧∃ v1,Bk h p 0 0 Ty_amanuensisref1_reader true true [vs x.s,wz x.at_,v1,wz x.begun,wz x.err,wz x.where_]∧x.s.length≤maxB∧inR x.at_∧SlO X c h v1 x.l∧inR x.begun∧inR x.err∧inR x.where_
abbrev amanuensisref1_readerK:List Nat:=[kO Ty_amanuensisref1_reader,0,kR Ty_api_Json,kR Ty_string,kO Ty_string,kR Ty_int,kO Ty_int]
theorem amanuensisref1_readerO.gx {X:List Nat} {c:Nat} {h h':H} {p:Nat} {x:amanuensisref1_reader} (P:amanuensisref1_readerO X c h p x) (n1:h.next≤h'.next) (F:∀ id,id<h.next→id∉X→kd (hget id h.tr)∈amanuensisref1_readerK→hget id h'.tr=hget id h.tr):amanuensisref1_readerO X c h' p x:=by
 obtain ⟨hp,hX,v1,B,f0,f1,f2,f3,f4,f5⟩:=P
 exact ⟨⟨Nat.lt_of_lt_of_le hp.1 n1,hp.2⟩,⟨hX.1,fun j hj=>Nat.lt_of_lt_of_le (hX.2 j hj) n1⟩,v1,B.eq (F p hp.1 hX.1 (by rw [B.kd];exact List.mem_cons_self)),f0,f1,f2.gx n1 fun id a b c=>F id a b (mem_of c (by decide)),f3,f4,f5⟩
theorem amanuensisref1_readerO.fz {X:List Nat} {c a b:Nat} {M:List Nat} {h h':H} {p:Nat} {x:amanuensisref1_reader} (P:amanuensisref1_readerO X c h p x) (F:Fz a b M h h') (hb:h.next≤b) (d:∀ k,k∈amanuensisref1_readerK→k∉M):amanuensisref1_readerO X c h' p x:=P.gx F.nx fun id hi _ hk=>F.hi id (by omega) (d _ hk)
theorem amanuensisref1_readerO.gxx {X X':List Nat} {c:Nat} {h h':H} {p:Nat} {x:amanuensisref1_reader} (P:amanuensisref1_readerO X c h p x) (n1:h.next≤h'.next) (hx:∀ i,i∈X'→i∉X→h.next≤i) (hX':∀ j,j∈X'→j<h'.next) (F:∀ id,id<h.next→id∉X→kd (hget id h.tr)∈amanuensisref1_readerK→hget id h'.tr=hget id h.tr):amanuensisref1_readerO X' c h' p x:=by
 have Q:=P.gx n1 F
 obtain ⟨hp,hX,v1,B,f0,f1,f2,f3,f4,f5⟩:=P
 obtain ⟨hq,_,Q⟩:=Q
 have F':∀ id,id<h.next→id∉X'→id∉X→True:=fun _ _ _ _=>trivial
 exact ⟨hq,⟨fun k=>by have:=hx p k hX.1;omega,hX'⟩,v1,B.eq (F p hp.1 hX.1 (by rw [B.kd];exact List.mem_cons_self)),f0,f1,f2.gxx n1 hx fun id a b c=>F id a b (mem_of c (by decide)),f3,f4,f5⟩
theorem amanuensisref1_readerO.xm {X X':List Nat} {c:Nat} {h:H} {p:Nat} {x:amanuensisref1_reader} (P:amanuensisref1_readerO X c h p x) (hx:∀ i,i∈X'→i∉X→h.next≤i) (hX':∀ j,j∈X'→j<h.next):amanuensisref1_readerO X' c h p x:=by
 obtain ⟨hp,hX,v1,B,f0,f1,f2,f3,f4,f5⟩:=P
 exact ⟨hp,⟨fun k=>by have:=hx p k hX.1;omega,hX'⟩,v1,B,f0,f1,f2.xm hx,f3,f4,f5⟩
theorem amanuensisref1_readerO.st_at {X:List Nat} {c:Nat} {h:H} {p:Nat} {x:amanuensisref1_reader} {k:KV} (P:amanuensisref1_readerO X c h p x) {y:Int} (Y:inR y) (K:∀ h',amanuensisref1_readerO X c h' p { x with at_:=y }→Fz c h.next [kO Ty_amanuensisref1_reader] h h'→k V.u h'=true):st true 1 (.p p 1 6 0) (wz y) h k=true:=by
 obtain ⟨hp,hX,v1,B,f0,f1,f2,f3,f4,f5⟩:=P
 refine st_w B (show 1<6 by decide) (by decide) rfl fun h' n' B' o=>?_
 have F:Fz c h.next [kO Ty_amanuensisref1_reader] h h':=(Fz.refl c h.next _ h).put o hp.2 (.inr (by rw [B.kd];exact List.mem_cons_self))
 have hn:=Nat.le_refl h.next
 exact K h' ⟨⟨by omega,hp.2⟩,⟨hX.1,fun j hj=>by have:=hX.2 j hj;omega⟩,v1,B',f0,Y,f2.fz F hn (by decide),f3,f4,f5⟩ F
theorem amanuensisref1_readerO.st_begun {X:List Nat} {c:Nat} {h:H} {p:Nat} {x:amanuensisref1_reader} {k:KV} (P:amanuensisref1_readerO X c h p x) {y:Int} (Y:inR y) (K:∀ h',amanuensisref1_readerO X c h' p { x with begun:=y }→Fz c h.next [kO Ty_amanuensisref1_reader] h h'→k V.u h'=true):st true 1 (.p p 3 6 0) (wz y) h k=true:=by
 obtain ⟨hp,hX,v1,B,f0,f1,f2,f3,f4,f5⟩:=P
 refine st_w B (show 3<6 by decide) (by decide) rfl fun h' n' B' o=>?_
 have F:Fz c h.next [kO Ty_amanuensisref1_reader] h h':=(Fz.refl c h.next _ h).put o hp.2 (.inr (by rw [B.kd];exact List.mem_cons_self))
 have hn:=Nat.le_refl h.next
 exact K h' ⟨⟨by omega,hp.2⟩,⟨hX.1,fun j hj=>by have:=hX.2 j hj;omega⟩,v1,B',f0,f1,f2.fz F hn (by decide),Y,f4,f5⟩ F
theorem amanuensisref1_readerO.st_err {X:List Nat} {c:Nat} {h:H} {p:Nat} {x:amanuensisref1_reader} {k:KV} (P:amanuensisref1_readerO X c h p x) {y:Int} (Y:inR y) (K:∀ h',amanuensisref1_readerO X c h' p { x with err:=y }→Fz c h.next [kO Ty_amanuensisref1_reader] h h'→k V.u h'=true):st true 1 (.p p 4 6 0) (wz y) h k=true:=by
 obtain ⟨hp,hX,v1,B,f0,f1,f2,f3,f4,f5⟩:=P
 refine st_w B (show 4<6 by decide) (by decide) rfl fun h' n' B' o=>?_
 have F:Fz c h.next [kO Ty_amanuensisref1_reader] h h':=(Fz.refl c h.next _ h).put o hp.2 (.inr (by rw [B.kd];exact List.mem_cons_self))
 have hn:=Nat.le_refl h.next
 exact K h' ⟨⟨by omega,hp.2⟩,⟨hX.1,fun j hj=>by have:=hX.2 j hj;omega⟩,v1,B',f0,f1,f2.fz F hn (by decide),f3,Y,f5⟩ F
theorem amanuensisref1_readerO.st_where {X:List Nat} {c:Nat} {h:H} {p:Nat} {x:amanuensisref1_reader} {k:KV} (P:amanuensisref1_readerO X c h p x) {y:Int} (Y:inR y) (K:∀ h',amanuensisref1_readerO X c h' p { x with where_:=y }→Fz c h.next [kO Ty_amanuensisref1_reader] h h'→k V.u h'=true):st true 1 (.p p 5 6 0) (wz y) h k=true:=by
 obtain ⟨hp,hX,v1,B,f0,f1,f2,f3,f4,f5⟩:=P
 refine st_w B (show 5<6 by decide) (by decide) rfl fun h' n' B' o=>?_
 have F:Fz c h.next [kO Ty_amanuensisref1_reader] h h':=(Fz.refl c h.next _ h).put o hp.2 (.inr (by rw [B.kd];exact List.mem_cons_self))
 have hn:=Nat.le_refl h.next
 exact K h' ⟨⟨by omega,hp.2⟩,⟨hX.1,fun j hj=>by have:=hX.2 j hj;omega⟩,v1,B',f0,f1,f2.fz F hn (by decide),f3,f4,Y⟩ F
end Go.Bvm.JN
set_option linter.unusedVariables false
set_option maxRecDepth 100000
namespace Go.Bvm.JN
noncomputable section
def l1_JsonBack_0 (cf:CallF) (lf:Nat) (a:V):M:=fun b c d=>lda 3 a c fun f=>cf Nf_l1_Heavy (vl [f]) c fun g i=>condV g (sl0 (V.t true) b (fun j=>d X.r j i)) (d X.n b i)
def l1_JsonBack_1 (cf:CallF) (lf:Nat):M:=fun a b c=>lenL a.c0.c3 fun d=>lssW a.c0.c2 d fun f=>condV f (c X.n a b) (c (X.x 0) a b)
def l1_JsonBack_2 (cf:CallF) (lf:Nat) (a:V) (b:V):M:=fun c d f=>cf Nf_l1_num (vl [a]) d fun g i=>neqW g (wz 0) fun j=>guardF j i (fun m=>m b i) fun o p=>guardF j p (fun q=>lenS o fun r=>q r p) fun s u=>guardF j u (fun w=>gtrW s (wz 900) fun y=>w y u) fun z A=>pickV j (V.t true) z fun B=>condV B (f (X.x 1) c A) (f X.n c A)
def l1_JsonBack_3 (cf:CallF) (lf:Nat) (a:V) (b:V):M:=fun c d f=>cf Nf_l1_num (vl [a]) d fun g i=>neqW g (wz 0) fun j=>guardF j i (fun m=>m b i) fun o p=>guardF j p (fun q=>q c.c0.c3 p) fun s u=>guardF j u (fun w=>w c.c0.c2 u) fun x y=>guardF j y (fun z=>iadV 1 s x fun A=>z A y) fun B D=>guardF j D (fun E=>ld1 B D fun F=>E F D) fun G I=>guardF j I (fun J=>cf Nf_z_EqJsons (vl [o,G]) I fun N O=>J N O) fun P Q=>guardF j Q (fun R=>notV P fun S=>R S Q) fun T U=>pickV j (V.t true) T fun W=>condV W (sl0 (V.t false) c (fun Y=>f X.r Y U)) (f X.n c U)
def l1_JsonBack_4 (cf:CallF) (lf:Nat):M:=fun a b c=>lenS a.c0.c4 fun d=>lssW a.c0.c5 d fun f=>condV f (c X.n a b) (c (X.x 2) a b)
def l1_JsonBack_5 (cf:CallF) (lf:Nat) (a:V) (b:H) (c:V) (d:V) (f:V) (g:V) (i:L8) (j:KX):Bool:=guardT a b (fun m=>subW c (wz 2) fun o=>m o b) fun p q=>guardT a q (fun r=>sidxV d p fun s=>r s q) fun u w=>guardT a w (fun x=>eqlY u (vy 92) fun y=>x y w) fun z A=>guardF f A (fun B=>pickV a z (V.t false) fun D=>B D A) fun E F=>guardT g F (fun G=>pickV f (V.t true) E fun I=>G I F) fun J N=>pickV g J (V.t false) fun O=>condV O (notV i.c0.c6 (fun P=>sl6 P i fun Q=>j X.n Q N)) (j X.n i N)
def l1_JsonBack_6 (cf:CallF) (lf:Nat) (a:V) (b:H) (c:V) (d:V) (f:V) (g:L8) (i:KX):Bool:=guardF a b (fun j=>subW c (wz 1) fun m=>j m b) fun n o=>guardF a o (fun p=>sidxV d n fun q=>p q o) fun r s=>guardF a s (fun u=>neqY r (vy 92) fun w=>u w s) fun x y=>guardT f y (fun z=>pickV a (V.t true) x fun A=>z A y) fun B D=>guardT f D (fun E=>E B D) fun F G=>guardF F G (fun I=>I g.c0.c5 G) fun J N=>guardF F N (fun O=>gtrW J (wz 1) fun P=>O P N) fun Q R=>guardF F R (fun S=>S Q R) fun T U=>guardT T U (fun W=>W g.c0.c4 U) fun Y Z=>guardT T Z (fun a0=>a0 g.c0.c5 Z) fun a1 a2=>l1_JsonBack_5 cf lf T a2 a1 Y F f g i
def l1_JsonBack_7 (cf:CallF) (lf:Nat):M:=fun a b c=>sidxV a.c0.c4 a.c0.c5 fun d=>eqlY d (vy 34) fun f=>guardT f b (fun g=>g a.c0.c5 b) fun i j=>guardT f j (fun m=>eqlW i (wz 0) fun n=>m n j) fun o p=>guardT f p (fun q=>q o p) fun r s=>guardF r s (fun t=>t a.c0.c4 s) fun u w=>guardF r w (fun x=>x a.c0.c5 w) fun y z=>l1_JsonBack_6 cf lf r z y u f a c
def l1_JsonBack_8 (cf:CallF) (lf:Nat) (a:V) (b:H) (c:V) (d:V) (f:L8) (g:V) (i:KX):Bool:=guardT a b (fun j=>pickV c (V.t true) d fun m=>j m b) fun o p=>guardT a p (fun q=>q o p) fun r s=>guardF r s (fun u=>u f.c0.c4 s) fun w x=>guardF r x (fun y=>y f.c0.c5 x) fun z A=>guardF r A (fun B=>sidxV w z fun D=>B D A) fun E F=>guardF r F (fun G=>eqlY E (vy 125) fun I=>G I F) fun J N=>guardT a N (fun O=>pickV r (V.t true) J fun P=>O P N) fun Q R=>pickV a Q (V.t false) fun S=>condV S (catV g (vs [10,9,32]) (fun T=>sl7 T f fun U=>i X.n U R)) (i X.n f R)
def l1_JsonBack_9 (cf:CallF) (lf:Nat) (a:V) (b:H) (c:L8) (d:V) (f:V) (g:KX):Bool:=guardF a b (fun i=>i c.c0.c4 b) fun j m=>guardF a m (fun n=>n c.c0.c5 m) fun o p=>guardF a p (fun q=>sidxV j o fun r=>q r p) fun s u=>guardF a u (fun w=>eqlY s (vy 123) fun x=>w x u) fun y z=>guardT d z (fun A=>pickV a (V.t true) y fun B=>A B z) fun D E=>guardT d E (fun F=>F D E) fun G I=>guardF G I (fun J=>J c.c0.c4 I) fun N O=>guardF G O (fun P=>P c.c0.c5 O) fun Q R=>guardF G R (fun S=>sidxV N Q fun T=>S T R) fun U W=>guardF G W (fun Y=>eqlY U (vy 93) fun Z=>Y Z W) fun a0 a1=>l1_JsonBack_8 cf lf d a1 G a0 c f g
def l1_JsonBack_10 (cf:CallF) (lf:Nat) (a:V) (b:H) (c:V) (d:V) (f:V) (g:L8) (i:V) (j:KX):Bool:=guardF a b (fun m=>sidxV c d fun n=>m n b) fun o p=>guardF a p (fun q=>eqlY o (vy 58) fun r=>q r p) fun s u=>guardT f u (fun w=>pickV a (V.t true) s fun x=>w x u) fun y z=>guardT f z (fun A=>A y z) fun B D=>guardF B D (fun E=>E g.c0.c4 D) fun F G=>guardF B G (fun I=>I g.c0.c5 G) fun J N=>guardF B N (fun O=>sidxV F J fun P=>O P N) fun Q R=>guardF B R (fun S=>eqlY Q (vy 91) fun T=>S T R) fun U W=>guardT f W (fun Y=>pickV B (V.t true) U fun Z=>Y Z W) fun a0 a1=>guardT f a1 (fun a2=>a2 a0 a1) fun a3 a4=>l1_JsonBack_9 cf lf a3 a4 g f i j
def l1_JsonBack_11 (cf:CallF) (lf:Nat) (a:L8) (b:H) (c:V) (d:KX):Bool:=notV a.c0.c6 fun f=>guardT f b (fun g=>g a.c0.c4 b) fun i j=>guardT f j (fun m=>m a.c0.c5 j) fun n o=>guardT f o (fun p=>sidxV i n fun q=>p q o) fun r s=>guardT f s (fun t=>eqlY r (vy 44) fun u=>t u s) fun w x=>guardT f x (fun y=>y w x) fun z A=>guardF z A (fun B=>B a.c0.c4 A) fun D E=>guardF z E (fun F=>F a.c0.c5 E) fun G I=>l1_JsonBack_10 cf lf z I D G f a c d
def l1_JsonBack_12 (cf:CallF) (lf:Nat):M:=fun a b c=>addW a.c0.c5 (wz 1) fun d=>sstr (some a.c0.c5) (some d) a.c0.c4 fun f=>catV a.c0.c7 f fun g=>sl7 g a fun i=>l1_JsonBack_11 cf lf i b g c
def l1_JsonBack_13 (cf:CallF) (lf:Nat):M:=fun a b c=>addW a.c0.c5 (wz 1) fun d=>sl5 d a fun f=>c X.n f b
def l1_JsonBack_14 (cf:CallF) (lf:Nat):M:=fun a b c=>sl5 (wz 0) a fun d=>blockM 2 (loopM lf (seqM (l1_JsonBack_4 cf lf) (seqM (blockM 3 (seqM (l1_JsonBack_7 cf lf) (l1_JsonBack_12 cf lf))) (l1_JsonBack_13 cf lf)))) d b c
def l1_JsonBack_15 (cf:CallF) (lf:Nat):M:=fun a b c=>lenS a.c0.c7 fun d=>gtrW d (wz 3000) fun f=>condV f (c (X.x 1) a b) (c X.n a b)
def l1_JsonBack_16 (cf:CallF) (lf:Nat) (a:V) (b:H) (c:L8) (d:V) (f:V) (g:V) (i:KX):Bool:=guardF a b (fun j=>j c.c0.c2 b) fun m o=>guardF a o (fun p=>iadV 1 d m fun q=>p q o) fun s u=>guardF a u (fun w=>ld1 s u fun x=>w x u) fun y z=>guardF a z (fun A=>cf Nf_z_EqJsons (vl [f,y]) z fun B D=>A B D) fun E F=>guardF a F (fun G=>notV E fun I=>G I F) fun J N=>guardT g N (fun O=>pickV a (V.t true) J fun P=>O P N) fun Q R=>pickV g Q (V.t false) fun S=>condV S (sl0 (V.t false) c (fun T=>i X.r T R)) (i X.n c R)
def l1_JsonBack_17 (cf:CallF) (lf:Nat) (a:L8) (b:H) (c:V) (d:V) (f:KX):Bool:=cf Nf_l1_slashes (vl [a.c0.c4]) b fun g i=>eqlW g (wz 0) fun j=>guardT j i (fun m=>m c i) fun n o=>guardT j o (fun p=>cf Nf_l1_num (vl [n]) o fun q r=>p q r) fun s t=>guardT j t (fun u=>neqW s (wz 0) fun w=>u w t) fun x y=>guardT j y (fun z=>z x y) fun A B=>guardF A B (fun D=>D d B) fun E F=>guardF A F (fun G=>G a.c0.c3 F) fun I J=>l1_JsonBack_16 cf lf A J a I E j f
def l1_JsonBack_18 (cf:CallF) (lf:Nat):M:=fun a b c=>cf Nf_j_Read (vl [a.c0.c7]) b fun d f=>ext 0 d fun g=>ext 1 d fun i=>ext 2 d fun j=>l1_JsonBack_17 cf lf a f j g c
def l1_JsonBack_19 (cf:CallF) (lf:Nat):M:=fun a b c=>sl7 (vs [32]) a fun d=>sl6 (V.t false) d fun f=>seqM (l1_JsonBack_14 cf lf) (seqM (l1_JsonBack_15 cf lf) (l1_JsonBack_18 cf lf)) f b c
def l1_JsonBack_20 (cf:CallF) (lf:Nat):M:=fun a b c=>cf Nf_j_Read (vl [a.c0.c4]) b fun d f=>ext 0 d fun g=>ext 1 d fun i=>ext 2 d fun j=>seqM (l1_JsonBack_3 cf lf j g) (l1_JsonBack_19 cf lf) a f c
def l1_JsonBack_21 (cf:CallF) (lf:Nat):M:=fun a b c=>iadV 1 a.c0.c3 a.c0.c2 fun d=>ld1 d b fun f=>cf Nf_j_Write (vl [f]) b fun g i=>ext 0 g fun j=>ext 1 g fun m=>sl4 j a fun n=>seqM (l1_JsonBack_2 cf lf m j) (l1_JsonBack_20 cf lf) n i c
def l1_JsonBack_22 (cf:CallF) (lf:Nat):M:=fun a b c=>addW a.c0.c2 (wz 1) fun d=>sl2 d a fun f=>c X.n f b
def l1_JsonBack_23 (cf:CallF) (lf:Nat):M:=fun a b c=>sl2 (wz 0) a fun d=>blockM 0 (loopM lf (seqM (l1_JsonBack_1 cf lf) (seqM (blockM 1 (l1_JsonBack_21 cf lf)) (l1_JsonBack_22 cf lf)))) d b c
def l1_JsonBack_24 (cf:CallF) (lf:Nat):M:=fun a b c=>cf Nf_l1_wakes V.nil b fun d f=>sl0 d a fun g=>c X.r g f
def l1_JsonBack_25 (cf:CallF) (lf:Nat):M:=fun a b c=>lda 3 a.c0.c1 b fun d=>cf Nf_l1_values (vl [d]) b fun f g=>sl3 f a fun i=>seqM (l1_JsonBack_23 cf lf) (l1_JsonBack_24 cf lf) i g c
def l1_JsonBack_26 (cf:CallF) (lf:Nat) (a:V):M:=fun b c d=>resv 1 c fun f g=>newA f false 3 Ty_amanuensislaw1_Ask a g fun i j=>sl1 i b fun m=>sl0 (V.t false) m fun n=>seqM (l1_JsonBack_0 cf lf i) (l1_JsonBack_25 cf lf) n j d
def T_l1_JsonBack (cf:CallF) (lf:Nat):V→H→KV→Bool:=fun l h k=>onCons l fun a b=>onNil b ((l1_JsonBack_26 cf lf a) (⟨n8 V.u,n8 V.u,n8 V.u,n8 V.u,n8 V.u,n8 V.u,n8 V.u,n8 V.u⟩ : L8) h (fun x e h=>finK (fun e h k=>k e.c0.c0) k x e h))
def l1_Heavy_0 (cf:CallF) (lf:Nat):M:=fun a b c=>fadV 1 a.c0.c2 fun d=>ld1 d b fun f=>lenL f fun g=>lssW a.c0.c1 g fun i=>guardT i b (fun j=>j a.c0.c3 b) fun m o=>guardT i o (fun p=>lssW m (wz 1048576) fun q=>p q o) fun r s=>pickV i r (V.t false) fun u=>condV u (c X.n a s) (c (X.x 0) a s)
def l1_Heavy_1 (cf:CallF) (lf:Nat):M:=fun a b c=>fadV 1 a.c0.c2 fun d=>ld1 d b fun f=>iadV 1 f a.c0.c1 fun g=>ld1 g b fun i=>cf Nf_l0_JsonsWeight (vl [i]) b fun j m=>addW a.c0.c3 j fun o=>sl3 o a fun p=>c X.n p m
def l1_Heavy_2 (cf:CallF) (lf:Nat):M:=fun a b c=>addW a.c0.c1 (wz 1) fun d=>sl1 d a fun f=>c X.n f b
def l1_Heavy_3 (cf:CallF) (lf:Nat):M:=fun a b c=>sl1 (wz 0) a fun d=>blockM 0 (loopM lf (seqM (l1_Heavy_0 cf lf) (seqM (blockM 1 (l1_Heavy_1 cf lf)) (l1_Heavy_2 cf lf)))) d b c
def l1_Heavy_4 (cf:CallF) (lf:Nat):M:=fun a b c=>gtrW a.c0.c3 (wz 3000) fun d=>sl0 d a fun f=>c X.r f b
def l1_Heavy_5 (cf:CallF) (lf:Nat) (a:V):M:=fun b c d=>resv 1 c fun f g=>newA f false 3 Ty_amanuensislaw1_Ask a g fun i j=>sl2 i b fun m=>sl0 (V.t false) m fun n=>resv 0 j fun o p=>fadV 1 i fun q=>ld1 q p fun r=>lda 3 i p fun s=>lenL r fun u=>cf Nf_l1_cellsOf (vl [s]) p fun w x=>ld1 q x fun y=>both (eqV y r) (addW u w (fun z=>sl3 z n fun A=>seqM (l1_Heavy_3 cf lf) (l1_Heavy_4 cf lf) A x d))
def T_l1_Heavy (cf:CallF) (lf:Nat):V→H→KV→Bool:=fun l h k=>onCons l fun a b=>onNil b ((l1_Heavy_5 cf lf a) (⟨n8 V.u,n8 V.u,n8 V.u,n8 V.u,n8 V.u,n8 V.u,n8 V.u,n8 V.u⟩ : L8) h (fun x e h=>finK (fun e h k=>k e.c0.c0) k x e h))
def l0_Within_0 (cf:CallF) (lf:Nat) (a:V) (b:V):M:=fun c d f=>sl0 (wz 0) c fun g=>toI .u64 a fun i=>toI .u64 b fun j=>remV i j fun m=>toW m fun n=>sl0 n g fun o=>f X.r o d
def T_l0_Within (cf:CallF) (lf:Nat):V→H→KV→Bool:=fun l h k=>onCons l fun a b=>onCons b fun c d=>onNil d ((l0_Within_0 cf lf a c) (⟨n8 V.u,n8 V.u,n8 V.u,n8 V.u,n8 V.u,n8 V.u,n8 V.u,n8 V.u⟩ : L8) h (fun x e h=>finK (fun e h k=>k e.c0.c0) k x e h))
def j_Read_0 (cf:CallF) (lf:Nat) (a:V):M:=fun b c d=>lenS a fun f=>gtrW f (wz 3000) fun g=>condV g (sl0 (V.x .slnil V.nil V.nil) b (fun i=>sl1 (wz 0) i fun j=>sl2 (wz 2) j fun m=>d X.r m c)) (d X.n b c)
def j_Read_1 (cf:CallF) (lf:Nat) (a:V):M:=fun b c d=>nilckV a fun f=>fadV 1 f fun g=>ld1 g c fun i=>lenS b.c0.c3 fun j=>lssW i j fun m=>condV m (nilckV a (fun o=>fadV 1 o fun p=>ld1 p c fun q=>cf Nf_j_parser_bad (vl [a,(wz 4),q]) c fun r s=>d X.n b s)) (d X.n b c)
def j_Read_2 (cf:CallF) (lf:Nat):M:=fun a b c=>nilckV a.c0.c4 fun d=>fadV 5 d fun f=>ld1 f b fun g=>neqW g (wz 0) fun i=>condV i (resv 0 b (fun j m=>nilckV a.c0.c4 fun o=>fadV 6 o fun p=>ld1 p m fun q=>nilckV a.c0.c4 fun s=>fadV 5 s fun t=>ld1 t m fun u=>sl0 (V.x .slnil V.nil V.nil) a fun w=>sl1 q w fun y=>sl2 u y fun z=>c X.r z m)) (c X.n a b)
def j_Read_3 (cf:CallF) (lf:Nat):M:=fun a b c=>nilckV a.c0.c4 fun d=>fadV 2 d fun f=>ld1 f b fun g=>sl0 g a fun i=>sl1 (wz 0) i fun j=>sl2 (wz 0) j fun m=>c X.r m b
def j_Read_4 (cf:CallF) (lf:Nat):M:=fun a b c=>part 0 true 1 a.c0.c3 (vl [(vs []),(wz 0),V.x .slnil V.nil V.nil,(wz 0),(wz 0),(wz 0),(wz 0)]) fun d=>resv 1 b fun f g=>newA f false 7 Ty_json_parser (V.x .agg d V.nil) g fun i j=>sl4 i a fun m=>cf Nf_j_parser_value (vl [i]) j fun n o=>cf Nf_j_parser_blanks (vl [i]) o fun p q=>seqM (j_Read_1 cf lf i) (seqM (j_Read_2 cf lf) (j_Read_3 cf lf)) m q c
def j_Read_5 (cf:CallF) (lf:Nat) (a:V):M:=fun b c d=>sl0 (V.x .slnil V.nil V.nil) b fun f=>sl1 (wz 0) f fun g=>sl2 (wz 0) g fun i=>seqM (j_Read_0 cf lf a) (j_Read_4 cf lf) i c d
def T_j_Read (cf:CallF) (lf:Nat):V→H→KV→Bool:=fun l h k=>onCons l fun a b=>onNil b ((j_Read_5 cf lf a) (⟨⟨V.u,V.u,V.u,a,V.u,V.u,V.u,V.u⟩,n8 V.u,n8 V.u,n8 V.u,n8 V.u,n8 V.u,n8 V.u,n8 V.u⟩ : L8) h (fun x e h=>finK (fun e h k=>k (V.x .tup (vl [e.c0.c0,e.c0.c1,e.c0.c2]) V.nil)) k x e h))
def r_Read_0 (cf:CallF) (lf:Nat) (a:V):M:=fun b c d=>lenS a fun f=>gtrW f (wz 3000) fun g=>condV g (sl0 (V.x .slnil V.nil V.nil) b (fun i=>sl1 (wz 0) i fun j=>sl2 (wz 2) j fun m=>d X.r m c)) (d X.n b c)
def r_Read_1 (cf:CallF) (lf:Nat) (a:V):M:=fun b c d=>nilckV a fun f=>fadV 4 f fun g=>ld1 g c fun i=>eqlW i (wz 0) fun j=>guardT j c (fun m=>m a c) fun o p=>guardT j p (fun q=>nilckV o fun r=>q r p) fun s u=>guardT j u (fun w=>fadV 1 s fun x=>w x u) fun y z=>guardT j z (fun A=>ld1 y z fun B=>A B z) fun D E=>guardT j E (fun F=>F b.c0.c3 E) fun G I=>guardT j I (fun J=>lenS G fun N=>J N I) fun O P=>guardT j P (fun Q=>lssW D O fun R=>Q R P) fun S T=>pickV j S (V.t false) fun U=>condV U (nilckV a (fun W=>fadV 1 W fun Y=>ld1 Y T fun Z=>cf Nf_r_reader_fails (vl [a,(wz 4),Z]) T fun a0 a1=>d X.n b a1)) (d X.n b T)
def r_Read_2 (cf:CallF) (lf:Nat):M:=fun a b c=>nilckV a.c0.c4 fun d=>fadV 4 d fun f=>ld1 f b fun g=>neqW g (wz 0) fun i=>condV i (resv 0 b (fun j m=>nilckV a.c0.c4 fun o=>fadV 5 o fun p=>ld1 p m fun q=>nilckV a.c0.c4 fun s=>fadV 4 s fun t=>ld1 t m fun u=>sl0 (V.x .slnil V.nil V.nil) a fun w=>sl1 q w fun y=>sl2 u y fun z=>c X.r z m)) (c X.n a b)
def r_Read_3 (cf:CallF) (lf:Nat):M:=fun a b c=>nilckV a.c0.c4 fun d=>fadV 2 d fun f=>ld1 f b fun g=>sl0 g a fun i=>sl1 (wz 0) i fun j=>sl2 (wz 0) j fun m=>c X.r m b
def r_Read_4 (cf:CallF) (lf:Nat):M:=fun a b c=>part 0 true 1 a.c0.c3 (vl [(vs []),(wz 0),V.x .slnil V.nil V.nil,(wz 0),(wz 0),(wz 0)]) fun d=>resv 1 b fun f g=>newA f false 6 Ty_amanuensisref1_reader (V.x .agg d V.nil) g fun i j=>sl4 i a fun m=>cf Nf_r_reader_blanks (vl [i]) j fun n o=>cf Nf_r_reader_value (vl [i,(wz 0)]) o fun p q=>cf Nf_r_reader_blanks (vl [i]) q fun r s=>seqM (r_Read_1 cf lf i) (seqM (r_Read_2 cf lf) (r_Read_3 cf lf)) m s c
def r_Read_5 (cf:CallF) (lf:Nat) (a:V):M:=fun b c d=>sl0 (V.x .slnil V.nil V.nil) b fun f=>sl1 (wz 0) f fun g=>sl2 (wz 0) g fun i=>seqM (r_Read_0 cf lf a) (r_Read_4 cf lf) i c d
def T_r_Read (cf:CallF) (lf:Nat):V→H→KV→Bool:=fun l h k=>onCons l fun a b=>onNil b ((r_Read_5 cf lf a) (⟨⟨V.u,V.u,V.u,a,V.u,V.u,V.u,V.u⟩,n8 V.u,n8 V.u,n8 V.u,n8 V.u,n8 V.u,n8 V.u,n8 V.u⟩ : L8) h (fun x e h=>finK (fun e h k=>k (V.x .tup (vl [e.c0.c0,e.c0.c1,e.c0.c2]) V.nil)) k x e h))
def l1_num_0 (cf:CallF) (lf:Nat) (a:V):M:=fun b c d=>sl0 (wz 0) b fun f=>sl0 a f fun g=>d X.r g c
def T_l1_num (cf:CallF) (lf:Nat):V→H→KV→Bool:=fun l h k=>onCons l fun a b=>onNil b ((l1_num_0 cf lf a) (⟨n8 V.u,n8 V.u,n8 V.u,n8 V.u,n8 V.u,n8 V.u,n8 V.u,n8 V.u⟩ : L8) h (fun x e h=>finK (fun e h k=>k e.c0.c0) k x e h))
def z_EqJsons_0 (cf:CallF) (lf:Nat) (a:V) (b:V):M:=fun c d f=>lenL a fun g=>lenL b fun i=>neqW g i fun j=>condV j (sl0 (V.t false) c (fun m=>f X.r m d)) (f X.n c d)
def z_EqJsons_1 (cf:CallF) (lf:Nat):M:=fun a b c=>lenL a.c0.c2 fun d=>lssW a.c0.c1 d fun f=>condV f (c X.n a b) (c (X.x 0) a b)
def z_EqJsons_2 (cf:CallF) (lf:Nat):M:=fun a b c=>resv 0 b fun d f=>iadV 5 a.c0.c2 a.c0.c1 fun g=>lda 5 g f fun i=>iadV 5 a.c0.c3 a.c0.c1 fun j=>lda 5 j f fun m=>cf Nf_z_EqJson (vl [i,m]) f fun o p=>notV o fun q=>condV q (sl0 (V.t false) a (fun s=>c X.r s p)) (c X.n a p)
def z_EqJsons_3 (cf:CallF) (lf:Nat):M:=fun a b c=>addW a.c0.c1 (wz 1) fun d=>sl1 d a fun f=>c X.n f b
def z_EqJsons_4 (cf:CallF) (lf:Nat):M:=fun a b c=>sl1 (wz 0) a fun d=>blockM 0 (loopM lf (seqM (z_EqJsons_1 cf lf) (seqM (blockM 1 (z_EqJsons_2 cf lf)) (z_EqJsons_3 cf lf)))) d b c
def z_EqJsons_5 (cf:CallF) (lf:Nat):M:=fun a b c=>sl0 (V.t true) a fun d=>c X.r d b
def z_EqJsons_6 (cf:CallF) (lf:Nat) (a:V) (b:V):M:=fun c d f=>sl0 (V.t false) c fun g=>seqM (z_EqJsons_0 cf lf a b) (seqM (z_EqJsons_4 cf lf) (z_EqJsons_5 cf lf)) g d f
def T_z_EqJsons (cf:CallF) (lf:Nat):V→H→KV→Bool:=fun l h k=>onCons l fun a b=>onCons b fun c d=>onNil d ((z_EqJsons_6 cf lf a c) (⟨⟨V.u,V.u,a,c,V.u,V.u,V.u,V.u⟩,n8 V.u,n8 V.u,n8 V.u,n8 V.u,n8 V.u,n8 V.u,n8 V.u⟩ : L8) h (fun x e h=>finK (fun e h k=>k e.c0.c0) k x e h))
def l1_wakes_0 (cf:CallF) (lf:Nat) (a:V) (b:H) (c:V) (d:V) (f:V) (g:L8) (i:KX):Bool:=cf Nf_l1_num (vl [a]) b fun j m=>eqlW j (wz 0) fun n=>guardT n m (fun o=>o c m) fun p q=>guardT n q (fun s=>cf Nf_l1_num (vl [p]) q fun u w=>s u w) fun x y=>guardT n y (fun z=>eqlW x (wz 0) fun A=>z A y) fun B D=>pickV n B (V.t false) fun E=>guardT E D (fun F=>F d D) fun G I=>guardT E I (fun J=>lenL G fun N=>J N I) fun O P=>guardT E P (fun Q=>eqlW O (wz 3) fun R=>Q R P) fun S T=>pickV E S (V.t false) fun U=>guardT U T (fun W=>W f T) fun Y Z=>guardT U Z (fun a0=>eqlS Y (vs [123,34,97,34,58,91,49,93,125]) fun a1=>a0 a1 Z) fun a2 a3=>pickV U a2 (V.t false) fun a4=>sl0 a4 g fun a5=>i X.r a5 a3
def l1_wakes_1 (cf:CallF) (lf:Nat):M:=fun a b c=>sl0 (V.t false) a fun d=>cf Nf_j_Read (vl [(vs [123,34,97,34,58,91,49,93,125])]) b fun f g=>ext 0 f fun i=>ext 1 f fun j=>ext 2 f fun m=>cf Nf_j_Write (vl [i]) g fun n o=>ext 0 n fun p=>ext 1 n fun q=>l1_wakes_0 cf lf m o q i p d c
def T_l1_wakes (cf:CallF) (lf:Nat):V→H→KV→Bool:=fun l h k=>onNil l ((l1_wakes_1 cf lf) (⟨n8 V.u,n8 V.u,n8 V.u,n8 V.u,n8 V.u,n8 V.u,n8 V.u,n8 V.u⟩ : L8) h (fun x e h=>finK (fun e h k=>k e.c0.c0) k x e h))
def l1_values_0 (cf:CallF) (lf:Nat) (a:V):M:=fun b c d=>lenL a fun f=>gtrW f (wz 7) fun g=>condV g (ssli 1 none (some (wz 7)) a (fun i=>sl3 i b fun j=>d X.n j c)) (d X.n b c)
def l1_values_1 (cf:CallF) (lf:Nat):M:=fun a b c=>fadV 0 a.c0.c2 fun d=>ld1 d b fun f=>lenL f fun g=>lssW a.c0.c1 g fun i=>guardT i b (fun j=>j a.c0.c1 b) fun m o=>guardT i o (fun p=>lssW m (wz 6) fun q=>p q o) fun r s=>pickV i r (V.t false) fun u=>condV u (c X.n a s) (c (X.x 0) a s)
def l1_values_2 (cf:CallF) (lf:Nat) (a:V):M:=fun b c d=>neqW a (wz 0) fun f=>condV f (d (X.x 1) b c) (d X.n b c)
def l1_values_3 (cf:CallF) (lf:Nat):M:=fun a b c=>lssW a.c0.c5 (wz 5) fun d=>condV d (c X.n a b) (c (X.x 2) a b)
def l1_values_4 (cf:CallF) (lf:Nat) (a:V) (b:V) (c:V) (d:H) (f:KX) (g:L8):Bool:=condV a (iadV 5 b c (fun i=>fadV 3 i fun j=>ld1 j d fun m=>resv 1 d fun o p=>part 0 true 1 (vs [97]) (vl [(vs [])]) fun q=>bslA o 1 1 Ty_string q p fun r s=>app 1 Ty_string m r s fun t u=>iadV 5 b c fun w=>fadV 3 w fun x=>st true 1 x t u fun y z=>f X.n g z)) (iadV 5 b c (fun A=>fadV 4 A fun B=>ld1 B d fun D=>resv 1 d fun E F=>part 0 true 1 (wz 0) (vl [(wz 0)]) fun G=>bslA E 1 1 Ty_int G F fun I J=>app 1 Ty_int D I J fun N O=>iadV 5 b c fun P=>fadV 4 P fun Q=>st true 1 Q N O fun R S=>f X.n g S))
def l1_values_5 (cf:CallF) (lf:Nat) (a:V) (b:V) (c:V) (d:H) (f:KX) (g:L8) (i:L8):Bool:=condV a (iadV 5 b c (fun j=>fadV 1 j fun m=>ld1 m d fun o=>addW o (wz 1) fun p=>iadV 5 b c fun q=>fadV 1 q fun r=>st true 1 r p d fun s t=>f X.n g t)) (eqlW i.c0.c5 (wz 2) (fun u=>condV u (iadV 5 b c (fun w=>fadV 2 w fun x=>ld1 x d fun y=>catV y (vs [1]) fun z=>iadV 5 b c fun A=>fadV 2 A fun B=>st true 1 B z d fun D E=>f X.n g E)) (eqlW i.c0.c5 (wz 3) (fun F=>l1_values_4 cf lf F b c d f g))))
def l1_values_6 (cf:CallF) (lf:Nat) (a:L8) (b:V) (c:V):M:=fun d f g=>eqlW a.c0.c5 (wz 0) fun i=>condV i (iadV 5 b c (fun j=>fadV 0 j fun m=>ld1 m f fun o=>addW o (wz 1) fun p=>remV p (wz 8) fun q=>iadV 5 b c fun r=>fadV 0 r fun s=>st true 1 s q f fun t u=>g X.n d u)) (eqlW a.c0.c5 (wz 1) (fun w=>l1_values_5 cf lf w b c f g d a))
def l1_values_7 (cf:CallF) (lf:Nat) (a:V) (b:V):M:=fun c d f=>blockM 4 (l1_values_6 cf lf c a b) c d f
def l1_values_8 (cf:CallF) (lf:Nat):M:=fun a b c=>resv 1 b fun d f=>part 0 true 1 a.c0.c6 (vl [V.x .slnil V.nil V.nil]) fun g=>bslA d 1 1 Ty_Sl_api_Json g f fun i j=>app 1 Ty_Sl_api_Json a.c0.c3 i j fun m o=>sl3 m a fun p=>c X.n p o
def l1_values_9 (cf:CallF) (lf:Nat):M:=fun a b c=>cf Nf_z_CopyJsons (vl [a.c0.c4]) b fun d f=>sl6 d a fun g=>lenL d fun i=>mulV g.c0.c5 i fun j=>quoV j (wz 5) fun m=>fadV 2 g.c0.c2 fun n=>ld1 n f fun o=>lenL o fun p=>addW m p fun q=>lenL d fun r=>cf Nf_l0_Within (vl [q,r]) f fun s t=>seqM (l1_values_7 cf lf d s) (l1_values_8 cf lf) g t c
def l1_values_10 (cf:CallF) (lf:Nat):M:=fun a b c=>addW a.c0.c5 (wz 1) fun d=>sl5 d a fun f=>c X.n f b
def l1_values_11 (cf:CallF) (lf:Nat):M:=fun a b c=>resv 1 b fun d f=>part 0 true 1 a.c0.c4 (vl [V.x .slnil V.nil V.nil]) fun g=>bslA d 1 1 Ty_Sl_api_Json g f fun i j=>app 1 Ty_Sl_api_Json a.c0.c3 i j fun m n=>sl3 m a fun o=>sl5 (wz 0) o fun p=>blockM 2 (loopM lf (seqM (l1_values_3 cf lf) (seqM (blockM 3 (l1_values_9 cf lf)) (l1_values_10 cf lf)))) p n c
def l1_values_12 (cf:CallF) (lf:Nat):M:=fun a b c=>fadV 0 a.c0.c2 fun d=>ld1 d b fun f=>iadV 1 f a.c0.c1 fun g=>ld1 g b fun i=>cf Nf_r_Read (vl [i]) b fun j m=>ext 0 j fun n=>ext 1 j fun o=>ext 2 j fun p=>sl4 n a fun q=>seqM (l1_values_2 cf lf p) (l1_values_11 cf lf) q m c
def l1_values_13 (cf:CallF) (lf:Nat):M:=fun a b c=>addW a.c0.c1 (wz 1) fun d=>sl1 d a fun f=>c X.n f b
def l1_values_14 (cf:CallF) (lf:Nat):M:=fun a b c=>sl1 (wz 0) a fun d=>blockM 0 (loopM lf (seqM (l1_values_1 cf lf) (seqM (blockM 1 (l1_values_12 cf lf)) (l1_values_13 cf lf)))) d b c
def l1_values_15 (cf:CallF) (lf:Nat):M:=fun a b c=>sl0 a.c0.c3 a fun d=>c X.r d b
def l1_values_16 (cf:CallF) (lf:Nat) (a:V):M:=fun b c d=>resv 1 c fun f g=>newA f false 3 Ty_amanuensislaw1_Ask a g fun i j=>sl2 i b fun m=>sl0 (V.x .slnil V.nil V.nil) m fun n=>resv 1 j fun o p=>part 0 true 1 (V.x .slnil V.nil V.nil) (vl [V.x .slnil V.nil V.nil]) fun q=>bslA o 1 1 Ty_Sl_api_Json q p fun r s=>fadV 1 i fun t=>ld1 t s fun u=>app 1 Ty_Sl_api_Json r u s fun w y=>sl3 w n fun z=>seqM (l1_values_0 cf lf w) (seqM (l1_values_14 cf lf) (l1_values_15 cf lf)) z y d
def T_l1_values (cf:CallF) (lf:Nat):V→H→KV→Bool:=fun l h k=>onCons l fun a b=>onNil b ((l1_values_16 cf lf a) (⟨n8 V.u,n8 V.u,n8 V.u,n8 V.u,n8 V.u,n8 V.u,n8 V.u,n8 V.u⟩ : L8) h (fun x e h=>finK (fun e h k=>k e.c0.c0) k x e h))
def j_Write_0 (cf:CallF) (lf:Nat) (a:V):M:=fun b c d=>cf Nf_j_May (vl [a]) c fun f g=>notV f fun i=>condV i (sl0 (vs []) b (fun j=>sl1 (wz 1) j fun m=>d X.r m g)) (d X.n b g)
def j_Write_1 (cf:CallF) (lf:Nat):M:=fun a b c=>cf Nf_j_Text (vl [a.c0.c2]) b fun d f=>sl0 d a fun g=>sl1 (wz 0) g fun i=>c X.r i f
def j_Write_2 (cf:CallF) (lf:Nat) (a:V):M:=fun b c d=>sl0 (vs []) b fun f=>sl1 (wz 0) f fun g=>seqM (j_Write_0 cf lf a) (j_Write_1 cf lf) g c d
def T_j_Write (cf:CallF) (lf:Nat):V→H→KV→Bool:=fun l h k=>onCons l fun a b=>onNil b ((j_Write_2 cf lf a) (⟨⟨V.u,V.u,a,V.u,V.u,V.u,V.u,V.u⟩,n8 V.u,n8 V.u,n8 V.u,n8 V.u,n8 V.u,n8 V.u,n8 V.u⟩ : L8) h (fun x e h=>finK (fun e h k=>k (V.x .tup (vl [e.c0.c0,e.c0.c1]) V.nil)) k x e h))
def l1_slashes_0 (cf:CallF) (lf:Nat):M:=fun a b c=>lenS a.c0.c2 fun d=>lssW a.c0.c1 d fun f=>condV f (c X.n a b) (c (X.x 0) a b)
def l1_slashes_1 (cf:CallF) (lf:Nat):M:=fun a b c=>sidxV a.c0.c2 a.c0.c1 fun d=>eqlY d (vy 92) fun f=>condV f (addW a.c0.c3 (wz 1) (fun g=>sl3 g a fun i=>c X.n i b)) (c X.n a b)
def l1_slashes_2 (cf:CallF) (lf:Nat):M:=fun a b c=>addW a.c0.c1 (wz 1) fun d=>sl1 d a fun f=>c X.n f b
def l1_slashes_3 (cf:CallF) (lf:Nat):M:=fun a b c=>sl1 (wz 0) a fun d=>blockM 0 (loopM lf (seqM (l1_slashes_0 cf lf) (seqM (blockM 1 (l1_slashes_1 cf lf)) (l1_slashes_2 cf lf)))) d b c
def l1_slashes_4 (cf:CallF) (lf:Nat):M:=fun a b c=>sl0 a.c0.c3 a fun d=>c X.r d b
def l1_slashes_5 (cf:CallF) (lf:Nat):M:=fun a b c=>sl0 (wz 0) a fun d=>sl3 (wz 0) d fun f=>seqM (l1_slashes_3 cf lf) (l1_slashes_4 cf lf) f b c
def T_l1_slashes (cf:CallF) (lf:Nat):V→H→KV→Bool:=fun l h k=>onCons l fun a b=>onNil b ((l1_slashes_5 cf lf) (⟨⟨V.u,V.u,a,V.u,V.u,V.u,V.u,V.u⟩,n8 V.u,n8 V.u,n8 V.u,n8 V.u,n8 V.u,n8 V.u,n8 V.u⟩ : L8) h (fun x e h=>finK (fun e h k=>k e.c0.c0) k x e h))
def l1_cellsOf_0 (cf:CallF) (lf:Nat) (a:V):M:=fun b c d=>resv 1 c fun f g=>newA f false 3 Ty_amanuensislaw1_Ask a g fun i j=>sl0 (wz 0) b fun m=>resv 0 j fun n o=>fadV 0 i fun p=>ld1 p o fun q=>fadV 2 i fun s=>ld1 s o fun t=>cf Nf_l0_Texts (vl [q]) o fun u w=>ld1 s w fun x=>both (eqV x t) (quoV u (wz 4) (fun y=>cf Nf_l0_Texts (vl [t]) w fun z A=>addW y z fun B=>sl0 B m fun D=>d X.r D A))
def T_l1_cellsOf (cf:CallF) (lf:Nat):V→H→KV→Bool:=fun l h k=>onCons l fun a b=>onNil b ((l1_cellsOf_0 cf lf a) (⟨n8 V.u,n8 V.u,n8 V.u,n8 V.u,n8 V.u,n8 V.u,n8 V.u,n8 V.u⟩ : L8) h (fun x e h=>finK (fun e h k=>k e.c0.c0) k x e h))
def l0_JsonsWeight_0 (cf:CallF) (lf:Nat):M:=fun a b c=>lenL a.c0.c2 fun d=>lssW a.c0.c1 d fun f=>guardT f b (fun g=>g a.c0.c3 b) fun i j=>guardT f j (fun m=>lssW i (wz 1048576) fun o=>m o j) fun p q=>pickV f p (V.t false) fun r=>condV r (c X.n a q) (c (X.x 0) a q)
def l0_JsonsWeight_1 (cf:CallF) (lf:Nat):M:=fun a b c=>resv 0 b fun d f=>iadV 5 a.c0.c2 a.c0.c1 fun g=>fadV 4 g fun i=>ld1 i f fun j=>iadV 5 a.c0.c2 a.c0.c1 fun m=>fadV 2 m fun o=>ld1 o f fun p=>iadV 5 a.c0.c2 a.c0.c1 fun q=>fadV 3 q fun r=>ld1 r f fun s=>lenL j fun t=>addW a.c0.c3 t fun u=>lenS p fun w=>quoV w (wz 8) fun x=>addW u x fun y=>cf Nf_l0_Texts (vl [s]) f fun z A=>ld1 i A fun B=>both (eqV B j) (ld1 o A (fun D=>both (eqV D p) (quoV z (wz 8) (fun E=>addW y E fun F=>sl3 F a fun G=>c X.n G A))))
def l0_JsonsWeight_2 (cf:CallF) (lf:Nat):M:=fun a b c=>addW a.c0.c1 (wz 1) fun d=>sl1 d a fun f=>c X.n f b
def l0_JsonsWeight_3 (cf:CallF) (lf:Nat):M:=fun a b c=>sl1 (wz 0) a fun d=>blockM 0 (loopM lf (seqM (l0_JsonsWeight_0 cf lf) (seqM (blockM 1 (l0_JsonsWeight_1 cf lf)) (l0_JsonsWeight_2 cf lf)))) d b c
def l0_JsonsWeight_4 (cf:CallF) (lf:Nat):M:=fun a b c=>sl0 a.c0.c3 a fun d=>c X.r d b
def l0_JsonsWeight_5 (cf:CallF) (lf:Nat) (a:V):M:=fun b c d=>sl0 (wz 0) b fun f=>lenL a fun g=>sl3 g f fun i=>seqM (l0_JsonsWeight_3 cf lf) (l0_JsonsWeight_4 cf lf) i c d
def T_l0_JsonsWeight (cf:CallF) (lf:Nat):V→H→KV→Bool:=fun l h k=>onCons l fun a b=>onNil b ((l0_JsonsWeight_5 cf lf a) (⟨⟨V.u,V.u,a,V.u,V.u,V.u,V.u,V.u⟩,n8 V.u,n8 V.u,n8 V.u,n8 V.u,n8 V.u,n8 V.u,n8 V.u⟩ : L8) h (fun x e h=>finK (fun e h k=>k e.c0.c0) k x e h))
def j_parser_value_0 (cf:CallF) (lf:Nat) (a:V) (b:H) (c:V) (d:V) (f:KX) (g:L8):Bool:=cf Nf_st_IndexByte (vl [(vs [110,102,116]),a]) b fun i j=>addW (wz 1) i fun m=>fadV 0 c fun o=>st true 1 o m j fun p q=>resv 1 q fun r s=>part 0 true 1 (vs [110,117,108,108]) (vl [(vs []),(vs []),(vs [])]) fun t=>part 1 true 1 (vs [102,97,108,115,101]) t fun u=>part 2 true 1 (vs [116,114,117,101]) u fun w=>bslA r 3 1 Ty_string w s fun x y=>fadV 0 c fun z=>ld1 z y fun A=>subW A (wz 1) fun B=>iadV 1 x B fun D=>ld1 D y fun E=>cf Nf_j_parser_literal (vl [d,E]) y fun F G=>f X.n g G
def j_parser_value_1 (cf:CallF) (lf:Nat) (a:V) (b:H) (c:V) (d:V) (f:KX) (g:L8):Bool:=eqlY a (vy 110) fun i=>guardF i b (fun j=>j a b) fun m o=>guardF i o (fun p=>eqlY m (vy 102) fun q=>p q o) fun r s=>pickV i (V.t true) r fun u=>guardF u s (fun w=>w a s) fun x y=>guardF u y (fun z=>eqlY x (vy 116) fun A=>z A y) fun B D=>pickV u (V.t true) B fun E=>condV E (cf Nf_j_parser_begin (vl [c,V.t false]) D (fun F G=>j_parser_value_0 cf lf a G d c f g)) (nilckV c (fun I=>fadV 1 I fun J=>ld1 J D fun N=>cf Nf_j_parser_bad (vl [c,(wz 4),N]) D fun O P=>f X.n g P))
def j_parser_value_2 (cf:CallF) (lf:Nat) (a:V) (b:H) (c:V) (d:V) (f:KX) (g:L8):Bool:=eqlY a (vy 45) fun i=>guardF i b (fun j=>j a b) fun m o=>guardF i o (fun p=>cf Nf_j_digit (vl [m]) o fun q r=>p q r) fun s u=>pickV i (V.t true) s fun w=>condV w (cf Nf_j_parser_begin (vl [c,V.t false]) u (fun y z=>cf Nf_j_parser_number (vl [c]) z fun A B=>part 0 true 1 (wz 4) (vl [(wz 0),(wz 0),(vs []),V.x .slnil V.nil V.nil,V.x .slnil V.nil V.nil]) fun D=>part 1 true 1 A D fun E=>st false 5 d (V.x .agg E V.nil) B fun F G=>f X.n g G)) (j_parser_value_1 cf lf a u c d f g)
def j_parser_value_3 (cf:CallF) (lf:Nat) (a:V) (b:V) (c:H) (d:V) (f:KX) (g:L8):Bool:=eqlY a (vy 34) fun i=>condV i (cf Nf_j_parser_begin (vl [b,V.t false]) c (fun j m=>cf Nf_j_parser_text (vl [b]) m fun o p=>part 0 true 1 (wz 5) (vl [(wz 0),(wz 0),(vs []),V.x .slnil V.nil V.nil,V.x .slnil V.nil V.nil]) fun q=>part 2 true 1 o q fun r=>st false 5 d (V.x .agg r V.nil) p fun s u=>f X.n g u)) (j_parser_value_2 cf lf a c b d f g)
def j_parser_value_4 (cf:CallF) (lf:Nat) (a:V) (b:V) (c:V):M:=fun d f g=>eqlY a (vy 91) fun i=>guardF i f (fun j=>j a f) fun m o=>guardF i o (fun p=>eqlY m (vy 123) fun q=>p q o) fun r s=>pickV i (V.t true) r fun u=>condV u (cf Nf_j_parser_nested (vl [b,a]) s (fun w x=>st false 5 c w x fun y z=>g X.n d z)) (j_parser_value_3 cf lf a b s c g d)
def j_parser_value_5 (cf:CallF) (lf:Nat) (a:V) (b:V):M:=fun c d f=>cf Nf_j_parser_see (vl [a]) d fun g i=>blockM 0 (j_parser_value_4 cf lf g a b) c i f
def j_parser_value_6 (cf:CallF) (lf:Nat):M:=fun a b c=>lda 5 a.c0.c2 b fun d=>cf Nf_j_parser_add (vl [a.c0.c1,d]) b fun f g=>sl0 f a fun i=>c X.r i g
def j_parser_value_7 (cf:CallF) (lf:Nat) (a:H) (b:L8) (c:V) (d:KX):Bool:=resv 1 a fun f g=>newA f false 5 Ty_api_Json (V.x .agg (vl [(wz 0),(wz 0),(vs []),V.x .slnil V.nil V.nil,V.x .slnil V.nil V.nil]) V.nil) g fun i j=>sl2 i b fun m=>st false 5 i (V.x .agg (vl [(wz 0),(wz 0),(vs []),V.x .slnil V.nil V.nil,V.x .slnil V.nil V.nil]) V.nil) j fun n o=>seqM (j_parser_value_5 cf lf c i) (j_parser_value_6 cf lf) m o d
def j_parser_value_8 (cf:CallF) (lf:Nat) (a:V):M:=fun b c d=>sl0 (wz 0) b fun f=>cf Nf_j_parser_blanks (vl [a]) c fun g i=>j_parser_value_7 cf lf i f a d
def T_j_parser_value (cf:CallF) (lf:Nat):V→H→KV→Bool:=fun l h k=>onCons l fun a b=>onNil b ((j_parser_value_8 cf lf a) (⟨⟨V.u,a,V.u,V.u,V.u,V.u,V.u,V.u⟩,n8 V.u,n8 V.u,n8 V.u,n8 V.u,n8 V.u,n8 V.u,n8 V.u⟩ : L8) h (fun x e h=>finK (fun e h k=>k e.c0.c0) k x e h))
def j_parser_blanks_0 (cf:CallF) (lf:Nat):M:=fun a b c=>eqlY a.c0.c0 (vy 32) fun d=>guardF d b (fun f=>f a.c0.c0 b) fun g i=>guardF d i (fun j=>eqlY g (vy 9) fun m=>j m i) fun o p=>pickV d (V.t true) o fun q=>guardF q p (fun r=>r a.c0.c0 p) fun s u=>guardF q u (fun w=>eqlY s (vy 10) fun y=>w y u) fun z A=>pickV q (V.t true) z fun B=>guardF B A (fun D=>D a.c0.c0 A) fun E F=>guardF B F (fun G=>eqlY E (vy 13) fun I=>G I F) fun J N=>pickV B (V.t true) J fun O=>condV O (c X.n a N) (c (X.x 0) a N)
def j_parser_blanks_1 (cf:CallF) (lf:Nat):M:=fun a b c=>nilckV a.c0.c1 fun d=>fadV 1 d fun f=>ld1 f b fun g=>addW g (wz 1) fun i=>nilckV a.c0.c1 fun j=>fadV 1 j fun m=>st true 1 m i b fun o p=>c X.n a p
def j_parser_blanks_2 (cf:CallF) (lf:Nat):M:=fun a b c=>cf Nf_j_parser_see (vl [a.c0.c1]) b fun d f=>sl0 d a fun g=>c X.n g f
def j_parser_blanks_3 (cf:CallF) (lf:Nat) (a:V):M:=fun b c d=>cf Nf_j_parser_see (vl [a]) c fun f g=>sl0 f b fun i=>blockM 0 (loopM lf (seqM (j_parser_blanks_0 cf lf) (seqM (blockM 1 (j_parser_blanks_1 cf lf)) (j_parser_blanks_2 cf lf)))) i g d
def T_j_parser_blanks (cf:CallF) (lf:Nat):V→H→KV→Bool:=fun l h k=>onCons l fun a b=>onNil b ((j_parser_blanks_3 cf lf a) (⟨⟨V.u,a,V.u,V.u,V.u,V.u,V.u,V.u⟩,n8 V.u,n8 V.u,n8 V.u,n8 V.u,n8 V.u,n8 V.u,n8 V.u⟩ : L8) h (fun x e h=>finK (fun e h k=>k (V.x .tup V.nil V.nil)) k x e h))
def j_parser_bad_0 (cf:CallF) (lf:Nat) (a:V) (b:V) (c:V):M:=fun d f g=>nilckV a fun i=>fadV 5 i fun j=>ld1 j f fun m=>eqlW m (wz 0) fun o=>condV o (nilckV a (fun p=>fadV 5 p fun q=>st true 1 q b f fun r s=>nilckV a fun t=>fadV 6 t fun u=>st true 1 u c s fun w x=>g X.n d x)) (g X.n d f)
def T_j_parser_bad (cf:CallF) (lf:Nat):V→H→KV→Bool:=fun l h k=>onCons l fun a b=>onCons b fun c d=>onCons d fun f g=>onNil g ((j_parser_bad_0 cf lf a c f) (⟨n8 V.u,n8 V.u,n8 V.u,n8 V.u,n8 V.u,n8 V.u,n8 V.u,n8 V.u⟩ : L8) h (fun x e h=>finK (fun e h k=>k (V.x .tup V.nil V.nil)) k x e h))
def r_reader_blanks_0 (cf:CallF) (lf:Nat) (a:V) (b:H) (c:L8) (d:V) (f:V) (g:KX):Bool:=guardF a b (fun i=>i c.c0.c0 b) fun j m=>guardF a m (fun o=>nilckV j fun p=>o p m) fun q r=>guardF a r (fun s=>fadV 1 q fun u=>s u r) fun w y=>guardF a y (fun z=>ld1 w y fun A=>z A y) fun B D=>guardF a D (fun E=>sidxV d B fun F=>E F D) fun G I=>guardF a I (fun J=>eqlY G (vy 13) fun N=>J N I) fun O P=>guardT f P (fun Q=>pickV a (V.t true) O fun R=>Q R P) fun S T=>pickV f S (V.t false) fun U=>condV U (g X.n c T) (g (X.x 0) c T)
def r_reader_blanks_1 (cf:CallF) (lf:Nat) (a:V) (b:H) (c:V) (d:V) (f:V) (g:L8) (i:KX):Bool:=guardF a b (fun j=>fadV 1 c fun m=>j m b) fun n o=>guardF a o (fun p=>ld1 n o fun q=>p q o) fun r s=>guardF a s (fun u=>sidxV d r fun w=>u w s) fun x y=>guardF a y (fun z=>eqlY x (vy 10) fun A=>z A y) fun B D=>guardT f D (fun E=>pickV a (V.t true) B fun F=>E F D) fun G I=>guardT f I (fun J=>J G I) fun N O=>guardF N O (fun P=>P g.c0.c0 O) fun Q R=>guardF N R (fun S=>nilckV Q fun T=>S T R) fun U W=>guardF N W (fun Y=>fadV 0 U fun Z=>Y Z W) fun a0 a1=>guardF N a1 (fun a2=>ld1 a0 a1 fun a3=>a2 a3 a1) fun a4 a5=>r_reader_blanks_0 cf lf N a5 g a4 f i
def r_reader_blanks_2 (cf:CallF) (lf:Nat) (a:V) (b:H) (c:V) (d:V) (f:V) (g:L8) (i:KX):Bool:=guardF a b (fun j=>sidxV c d fun m=>j m b) fun n o=>guardF a o (fun p=>eqlY n (vy 9) fun q=>p q o) fun r s=>guardT f s (fun u=>pickV a (V.t true) r fun w=>u w s) fun x y=>guardT f y (fun z=>z x y) fun A B=>guardF A B (fun D=>D g.c0.c0 B) fun E F=>guardF A F (fun G=>nilckV E fun I=>G I F) fun J N=>guardF A N (fun O=>fadV 0 J fun P=>O P N) fun Q R=>guardF A R (fun S=>ld1 Q R fun T=>S T R) fun U W=>guardF A W (fun Y=>Y g.c0.c0 W) fun Z a0=>guardF A a0 (fun a1=>nilckV Z fun a2=>a1 a2 a0) fun a3 a4=>r_reader_blanks_1 cf lf A a4 a3 U f g i
def r_reader_blanks_3 (cf:CallF) (lf:Nat) (a:V) (b:H) (c:V) (d:L8) (f:KX):Bool:=guardT a b (fun g=>eqlY c (vy 32) fun i=>g i b) fun j m=>guardT a m (fun n=>n j m) fun o p=>guardF o p (fun q=>q d.c0.c0 p) fun r s=>guardF o s (fun t=>nilckV r fun u=>t u s) fun w x=>guardF o x (fun y=>fadV 0 w fun z=>y z x) fun A B=>guardF o B (fun D=>ld1 A B fun E=>D E B) fun F G=>guardF o G (fun I=>I d.c0.c0 G) fun J N=>guardF o N (fun O=>nilckV J fun P=>O P N) fun Q R=>guardF o R (fun S=>fadV 1 Q fun T=>S T R) fun U W=>guardF o W (fun Y=>ld1 U W fun Z=>Y Z W) fun a0 a1=>r_reader_blanks_2 cf lf o a1 F a0 a d f
def r_reader_blanks_4 (cf:CallF) (lf:Nat) (a:V) (b:H) (c:L8) (d:KX):Bool:=guardT a b (fun f=>f c.c0.c0 b) fun g i=>guardT a i (fun j=>nilckV g fun m=>j m i) fun n o=>guardT a o (fun p=>fadV 0 n fun q=>p q o) fun r s=>guardT a s (fun t=>ld1 r s fun u=>t u s) fun w x=>guardT a x (fun y=>y c.c0.c0 x) fun z A=>guardT a A (fun B=>nilckV z fun D=>B D A) fun E F=>guardT a F (fun G=>fadV 1 E fun I=>G I F) fun J N=>guardT a N (fun O=>ld1 J N fun P=>O P N) fun Q R=>guardT a R (fun S=>sidxV w Q fun T=>S T R) fun U W=>r_reader_blanks_3 cf lf a W U c d
def r_reader_blanks_5 (cf:CallF) (lf:Nat):M:=fun a b c=>resv 0 b fun d f=>nilckV a.c0.c0 fun g=>fadV 1 g fun i=>ld1 i f fun j=>nilckV a.c0.c0 fun m=>fadV 0 m fun n=>ld1 n f fun o=>lenS o fun p=>lssW j p fun q=>r_reader_blanks_4 cf lf q f a c
def r_reader_blanks_6 (cf:CallF) (lf:Nat):M:=fun a b c=>nilckV a.c0.c0 fun d=>fadV 1 d fun f=>ld1 f b fun g=>addW g (wz 1) fun i=>nilckV a.c0.c0 fun j=>fadV 1 j fun m=>st true 1 m i b fun o p=>c X.n a p
def T_r_reader_blanks (cf:CallF) (lf:Nat):V→H→KV→Bool:=fun l h k=>onCons l fun a b=>onNil b ((blockM 0 (loopM lf (seqM (r_reader_blanks_5 cf lf) (blockM 1 (r_reader_blanks_6 cf lf))))) (⟨⟨a,V.u,V.u,V.u,V.u,V.u,V.u,V.u⟩,n8 V.u,n8 V.u,n8 V.u,n8 V.u,n8 V.u,n8 V.u,n8 V.u⟩ : L8) h (fun x e h=>finK (fun e h k=>k (V.x .tup V.nil V.nil)) k x e h))
def r_reader_value_0 (cf:CallF) (lf:Nat) (a:V):M:=fun b c d=>nilckV a fun f=>fadV 4 f fun g=>ld1 g c fun i=>neqW i (wz 0) fun j=>condV j (sl0 (wz 0) b (fun m=>d X.r m c)) (d X.n b c)
def r_reader_value_1 (cf:CallF) (lf:Nat) (a:V) (b:H) (c:V) (d:V) (f:L8) (g:KX):Bool:=guardF a b (fun i=>ld1 c b fun j=>i j b) fun m o=>guardF a o (fun p=>lenS m fun q=>p q o) fun s u=>guardF a u (fun w=>geqV d s fun x=>w x u) fun y z=>pickV a (V.t true) y fun A=>condV A (nilckV f.c0.c1 (fun B=>fadV 1 B fun D=>ld1 D z fun E=>cf Nf_r_reader_fails (vl [f.c0.c1,(wz 4),E]) z fun F G=>sl0 (wz 0) f fun I=>g X.r I G)) (g X.n f z)
def r_reader_value_2 (cf:CallF) (lf:Nat) (a:V):M:=fun b c d=>resv 0 c fun f g=>notV a fun i=>guardF i g (fun j=>j b.c0.c1 g) fun m n=>guardF i n (fun o=>nilckV m fun p=>o p n) fun q r=>guardF i r (fun s=>fadV 1 q fun t=>s t r) fun u w=>guardF i w (fun x=>ld1 u w fun y=>x y w) fun z A=>guardF i A (fun B=>B b.c0.c1 A) fun D E=>guardF i E (fun F=>nilckV D fun G=>F G E) fun I J=>guardF i J (fun N=>fadV 0 I fun O=>N O J) fun P Q=>r_reader_value_1 cf lf i Q P z b d
def r_reader_value_3 (cf:CallF) (lf:Nat):M:=fun a b c=>nilckV a.c0.c1 fun d=>fadV 3 d fun f=>ld1 f b fun g=>geqV g (wz 300) fun i=>guardF i b (fun j=>j a.c0.c2 b) fun m o=>guardF i o (fun p=>p m o) fun q s=>guardT q s (fun u=>u a.c0.c3 s) fun w x=>guardT q x (fun y=>geqV w (wz 8) fun z=>y z x) fun A B=>guardF i B (fun D=>pickV q A (V.t false) fun E=>D E B) fun F G=>pickV i (V.t true) F fun I=>condV I (cf Nf_r_reader_fails (vl [a.c0.c1,(wz 2),a.c0.c4]) G (fun J N=>sl0 (wz 0) a fun O=>c X.r O N)) (c X.n a G)
def r_reader_value_4 (cf:CallF) (lf:Nat) (a:V):M:=fun b c d=>lenS a fun f=>gtrW f (wz 3000) fun g=>condV g (cf Nf_r_reader_fails (vl [b.c0.c1,(wz 4),b.c0.c4]) c (fun i j=>d X.n b j)) (d X.n b c)
def r_reader_value_5 (cf:CallF) (lf:Nat):M:=fun a b c=>part 0 true 1 (wz 5) (vl [(wz 0),(wz 0),(vs []),V.x .slnil V.nil V.nil,V.x .slnil V.nil V.nil]) fun d=>part 2 true 1 a.c0.c6 d fun f=>cf Nf_r_reader_add (vl [a.c0.c1,V.x .agg f V.nil]) b fun g i=>c X.n a i
def r_reader_value_6 (cf:CallF) (lf:Nat) (a:V) (b:H) (c:V) (d:L8) (f:V) (g:KX):Bool:=guardF a b (fun i=>i c b) fun j m=>guardT j m (fun o=>o d.c0.c1 m) fun p q=>guardT j q (fun r=>nilckV p fun s=>r s q) fun u w=>guardT j w (fun y=>fadV 0 u fun z=>y z w) fun A B=>guardT j B (fun D=>ld1 A B fun E=>D E B) fun F G=>guardT j G (fun I=>I d.c0.c1 G) fun J N=>guardT j N (fun O=>nilckV J fun P=>O P N) fun Q R=>guardT j R (fun S=>fadV 1 Q fun T=>S T R) fun U W=>guardT j W (fun Y=>ld1 U W fun Z=>Y Z W) fun a0 a1=>guardT j a1 (fun a2=>sidxV F a0 fun a3=>a2 a3 a1) fun a4 a5=>guardT j a5 (fun a6=>leqY a4 (vy 57) fun a7=>a6 a7 a5) fun a8 a9=>guardF a a9 (fun b0=>pickV j a8 (V.t false) fun b1=>b0 b1 a9) fun b2 b3=>guardT f b3 (fun b4=>pickV a (V.t true) b2 fun b5=>b4 b5 b3) fun b6 b7=>pickV f b6 (V.t false) fun b8=>condV b8 (g X.n d b7) (g (X.x 1) d b7)
def r_reader_value_7 (cf:CallF) (lf:Nat) (a:V) (b:H) (c:L8) (d:V) (f:KX):Bool:=guardF a b (fun g=>g c.c0.c1 b) fun i j=>guardF a j (fun m=>nilckV i fun n=>m n j) fun o p=>guardF a p (fun q=>fadV 0 o fun r=>q r p) fun s t=>guardF a t (fun u=>ld1 s t fun w=>u w t) fun x y=>guardF a y (fun z=>z c.c0.c1 y) fun A B=>guardF a B (fun D=>nilckV A fun E=>D E B) fun F G=>guardF a G (fun I=>fadV 1 F fun J=>I J G) fun N O=>guardF a O (fun P=>ld1 N O fun Q=>P Q O) fun R S=>guardF a S (fun T=>sidxV x R fun U=>T U S) fun W Y=>guardF a Y (fun Z=>geqY W (vy 48) fun a0=>Z a0 Y) fun a1 a2=>r_reader_value_6 cf lf a a2 a1 c d f
def r_reader_value_8 (cf:CallF) (lf:Nat) (a:V) (b:H) (c:V) (d:L8) (f:KX):Bool:=guardT a b (fun g=>eqlY c (vy 45) fun i=>g i b) fun j m=>guardT a m (fun n=>n j m) fun o p=>guardT o p (fun q=>q d.c0.c1 p) fun r s=>guardT o s (fun u=>nilckV r fun w=>u w s) fun x y=>guardT o y (fun z=>fadV 1 x fun A=>z A y) fun B D=>guardT o D (fun E=>ld1 B D fun F=>E F D) fun G I=>guardT o I (fun J=>J d.c0.c4 I) fun N O=>guardT o O (fun P=>eqlW G N fun Q=>P Q O) fun R S=>guardT a S (fun T=>pickV o R (V.t false) fun U=>T U S) fun W Y=>guardT a Y (fun Z=>Z W Y) fun a0 a1=>r_reader_value_7 cf lf a0 a1 d a f
def r_reader_value_9 (cf:CallF) (lf:Nat) (a:V) (b:H) (c:L8) (d:KX):Bool:=guardT a b (fun f=>f c.c0.c1 b) fun g i=>guardT a i (fun j=>nilckV g fun m=>j m i) fun n o=>guardT a o (fun p=>fadV 0 n fun q=>p q o) fun r s=>guardT a s (fun t=>ld1 r s fun u=>t u s) fun w x=>guardT a x (fun y=>y c.c0.c1 x) fun z A=>guardT a A (fun B=>nilckV z fun D=>B D A) fun E F=>guardT a F (fun G=>fadV 1 E fun I=>G I F) fun J N=>guardT a N (fun O=>ld1 J N fun P=>O P N) fun Q R=>guardT a R (fun S=>sidxV w Q fun T=>S T R) fun U W=>r_reader_value_8 cf lf a W U c d
def r_reader_value_10 (cf:CallF) (lf:Nat):M:=fun a b c=>resv 0 b fun d f=>nilckV a.c0.c1 fun g=>fadV 1 g fun i=>ld1 i f fun j=>nilckV a.c0.c1 fun m=>fadV 0 m fun n=>ld1 n f fun o=>lenS o fun p=>lssW j p fun q=>r_reader_value_9 cf lf q f a c
def r_reader_value_11 (cf:CallF) (lf:Nat):M:=fun a b c=>nilckV a.c0.c1 fun d=>fadV 1 d fun f=>ld1 f b fun g=>addW g (wz 1) fun i=>nilckV a.c0.c1 fun j=>fadV 1 j fun m=>st true 1 m i b fun o p=>c X.n a p
def r_reader_value_12 (cf:CallF) (lf:Nat) (a:V):M:=fun b c d=>notV a fun f=>condV f (cf Nf_r_reader_fails (vl [b.c0.c1,(wz 4),b.c0.c4]) c (fun g i=>d X.n b i)) (d X.n b c)
def r_reader_value_13 (cf:CallF) (lf:Nat):M:=fun a b c=>part 0 true 1 (wz 4) (vl [(wz 0),(wz 0),(vs []),V.x .slnil V.nil V.nil,V.x .slnil V.nil V.nil]) fun d=>part 1 true 1 a.c0.c7 d fun f=>cf Nf_r_reader_add (vl [a.c0.c1,V.x .agg f V.nil]) b fun g i=>c X.n a i
def r_reader_value_14 (cf:CallF) (lf:Nat):M:=fun a b c=>resv 0 b fun d f=>nilckV a.c0.c1 fun g=>fadV 0 g fun i=>ld1 i f fun j=>nilckV a.c0.c1 fun m=>fadV 1 m fun n=>ld1 n f fun o=>sstr (some a.c0.c4) (some o) j fun p=>cf Nf_r_Int (vl [p]) f fun q r=>ext 0 q fun s=>ext 1 q fun t=>sl7 s a fun u=>seqM (r_reader_value_12 cf lf t) (r_reader_value_13 cf lf) u r c
def r_reader_value_15 (cf:CallF) (lf:Nat) (a:V) (b:L8) (c:H) (d:KX):Bool:=condV a (cf Nf_r_reader_word (vl [b.c0.c1,(vs [116,114,117,101]),(wz 3)]) c (fun f g=>d X.n b g)) (eqlY b.c0.c5 (vy 34) (fun i=>condV i (cf Nf_r_reader_text (vl [b.c0.c1]) c (fun j m=>sl6 j b fun o=>seqM (r_reader_value_4 cf lf j) (r_reader_value_5 cf lf) o m d)) (condV b.c0.c2 (eqlY b.c0.c5 (vy 123) (fun p=>cf Nf_r_reader_many (vl [b.c0.c1,b.c0.c3,p]) c fun q r=>d X.n b r)) (seqM (blockM 1 (loopM lf (seqM (r_reader_value_10 cf lf) (blockM 2 (r_reader_value_11 cf lf))))) (r_reader_value_14 cf lf) b c d))))
def r_reader_value_16 (cf:CallF) (lf:Nat):M:=fun a b c=>eqlY a.c0.c5 (vy 110) fun d=>condV d (cf Nf_r_reader_word (vl [a.c0.c1,(vs [110,117,108,108]),(wz 1)]) b (fun f g=>c X.n a g)) (eqlY a.c0.c5 (vy 102) (fun i=>condV i (cf Nf_r_reader_word (vl [a.c0.c1,(vs [102,97,108,115,101]),(wz 2)]) b (fun j m=>c X.n a m)) (eqlY a.c0.c5 (vy 116) (fun o=>r_reader_value_15 cf lf o a b c))))
def r_reader_value_17 (cf:CallF) (lf:Nat):M:=fun a b c=>nilckV a.c0.c1 fun d=>fadV 2 d fun f=>ld1 f b fun g=>lenL g fun i=>subW i (wz 1) fun j=>sl0 j a fun m=>c X.r m b
def r_reader_value_18 (cf:CallF) (lf:Nat):M:=fun a b c=>nilckV a.c0.c1 fun d=>fadV 3 d fun f=>ld1 f b fun g=>addW g (wz 1) fun i=>nilckV a.c0.c1 fun j=>fadV 3 j fun m=>st true 1 m i b fun n o=>seqM (blockM 0 (r_reader_value_16 cf lf)) (r_reader_value_17 cf lf) a o c
def r_reader_value_19 (cf:CallF) (lf:Nat) (a:V) (b:H) (c:V) (d:L8) (f:KX):Bool:=guardF a b (fun g=>g c b) fun i j=>guardF a j (fun m=>geqY i (vy 48) fun n=>m n j) fun o p=>guardF a p (fun q=>q o p) fun r s=>guardT r s (fun u=>u c s) fun w x=>guardT r x (fun y=>leqY w (vy 57) fun z=>y z x) fun A B=>guardF a B (fun D=>pickV r A (V.t false) fun E=>D E B) fun F G=>pickV a (V.t true) F fun I=>guardF I G (fun J=>J c G) fun N O=>guardF I O (fun P=>eqlY N (vy 110) fun Q=>P Q O) fun R S=>pickV I (V.t true) R fun T=>guardF T S (fun U=>U c S) fun W Y=>guardF T Y (fun Z=>eqlY W (vy 102) fun a0=>Z a0 Y) fun a1 a2=>pickV T (V.t true) a1 fun a3=>guardF a3 a2 (fun a4=>a4 c a2) fun a5 a6=>guardF a3 a6 (fun a7=>eqlY a5 (vy 116) fun a8=>a7 a8 a6) fun a9 b0=>pickV a3 (V.t true) a9 fun b1=>seqM (r_reader_value_2 cf lf b1) (seqM (r_reader_value_3 cf lf) (r_reader_value_18 cf lf)) d b0 f
def r_reader_value_20 (cf:CallF) (lf:Nat) (a:V) (b:H) (c:L8) (d:KX):Bool:=eqlY a (vy 91) fun f=>guardF f b (fun g=>g a b) fun i j=>guardF f j (fun m=>eqlY i (vy 123) fun n=>m n j) fun o p=>pickV f (V.t true) o fun q=>sl2 q c fun r=>guardF q p (fun s=>s a p) fun u w=>guardF q w (fun x=>eqlY u (vy 34) fun y=>x y w) fun z A=>pickV q (V.t true) z fun B=>guardF B A (fun D=>D a A) fun E F=>guardF B F (fun G=>eqlY E (vy 45) fun I=>G I F) fun J N=>pickV B (V.t true) J fun O=>r_reader_value_19 cf lf O N a r d
def r_reader_value_21 (cf:CallF) (lf:Nat):M:=fun a b c=>nilckV a.c0.c1 fun d=>fadV 1 d fun f=>ld1 f b fun g=>sl4 g a fun i=>cf Nf_r_reader_see (vl [i.c0.c1]) b fun j m=>sl5 j i fun n=>r_reader_value_20 cf lf j m n c
def r_reader_value_22 (cf:CallF) (lf:Nat) (a:V):M:=fun b c d=>sl0 (wz 0) b fun f=>seqM (r_reader_value_0 cf lf a) (r_reader_value_21 cf lf) f c d
def T_r_reader_value (cf:CallF) (lf:Nat):V→H→KV→Bool:=fun l h k=>onCons l fun a b=>onCons b fun c d=>onNil d ((r_reader_value_22 cf lf a) (⟨⟨V.u,a,V.u,c,V.u,V.u,V.u,V.u⟩,n8 V.u,n8 V.u,n8 V.u,n8 V.u,n8 V.u,n8 V.u,n8 V.u⟩ : L8) h (fun x e h=>finK (fun e h k=>k e.c0.c0) k x e h))
def r_reader_fails_0 (cf:CallF) (lf:Nat) (a:V) (b:V) (c:V):M:=fun d f g=>nilckV a fun i=>fadV 4 i fun j=>ld1 j f fun m=>eqlW m (wz 0) fun o=>condV o (nilckV a (fun p=>fadV 4 p fun q=>st true 1 q b f fun r s=>nilckV a fun t=>fadV 5 t fun u=>st true 1 u c s fun w x=>g X.n d x)) (g X.n d f)
def T_r_reader_fails (cf:CallF) (lf:Nat):V→H→KV→Bool:=fun l h k=>onCons l fun a b=>onCons b fun c d=>onCons d fun f g=>onNil g ((r_reader_fails_0 cf lf a c f) (⟨n8 V.u,n8 V.u,n8 V.u,n8 V.u,n8 V.u,n8 V.u,n8 V.u,n8 V.u⟩ : L8) h (fun x e h=>finK (fun e h k=>k (V.x .tup V.nil V.nil)) k x e h))
def z_EqJson_0 (cf:CallF) (lf:Nat) (a:V) (b:H) (c:V) (d:V) (f:L8) (g:KX):Bool:=guardT a b (fun i=>fadV 3 c fun j=>i j b) fun m n=>guardT a n (fun o=>ld1 m n fun p=>o p n) fun q s=>guardT a s (fun u=>fadV 3 d fun w=>u w s) fun x y=>guardT a y (fun z=>ld1 x y fun A=>z A y) fun B D=>guardT a D (fun E=>cf Nf_z_EqStrings (vl [q,B]) D fun F G=>E F G) fun I J=>pickV a I (V.t false) fun N=>guardT N J (fun O=>fadV 4 c fun P=>O P J) fun Q R=>guardT N R (fun S=>ld1 Q R fun T=>S T R) fun U W=>guardT N W (fun Y=>fadV 4 d fun Z=>Y Z W) fun a0 a1=>guardT N a1 (fun a2=>ld1 a0 a1 fun a3=>a2 a3 a1) fun a4 a5=>guardT N a5 (fun a6=>cf Nf_z_EqNumbers (vl [U,a4]) a5 fun a7 a8=>a6 a7 a8) fun a9 b0=>pickV N a9 (V.t false) fun b1=>sl0 b1 f fun b2=>g X.r b2 b0
def z_EqJson_1 (cf:CallF) (lf:Nat) (a:V) (b:H) (c:V) (d:V) (f:V) (g:V) (i:L8) (j:KX):Bool:=guardT a b (fun m=>eqlW c d fun n=>m n b) fun o p=>pickV a o (V.t false) fun q=>guardT q p (fun r=>fadV 2 f fun s=>r s p) fun u w=>guardT q w (fun x=>ld1 u w fun y=>x y w) fun z A=>guardT q A (fun B=>fadV 2 g fun D=>B D A) fun E F=>guardT q F (fun G=>ld1 E F fun I=>G I F) fun J N=>guardT q N (fun O=>eqlS z J fun P=>O P N) fun Q R=>pickV q Q (V.t false) fun S=>z_EqJson_0 cf lf S R f g i j
def z_EqJson_2 (cf:CallF) (lf:Nat) (a:V) (b:V):M:=fun c d f=>resv 1 d fun g i=>newA g false 5 Ty_api_Json a i fun j m=>resv 1 m fun n o=>newA n false 5 Ty_api_Json b o fun p q=>sl0 (V.t false) c fun r=>fadV 0 j fun s=>ld1 s q fun u=>fadV 0 p fun w=>ld1 w q fun x=>eqlW u x fun y=>guardT y q (fun z=>fadV 1 j fun A=>z A q) fun B D=>guardT y D (fun E=>ld1 B D fun F=>E F D) fun G I=>guardT y I (fun J=>fadV 1 p fun N=>J N I) fun O P=>guardT y P (fun Q=>ld1 O P fun R=>Q R P) fun S T=>z_EqJson_1 cf lf y T G S j p r f
def T_z_EqJson (cf:CallF) (lf:Nat):V→H→KV→Bool:=fun l h k=>onCons l fun a b=>onCons b fun c d=>onNil d ((z_EqJson_2 cf lf a c) (⟨n8 V.u,n8 V.u,n8 V.u,n8 V.u,n8 V.u,n8 V.u,n8 V.u,n8 V.u⟩ : L8) h (fun x e h=>finK (fun e h k=>k e.c0.c0) k x e h))
def z_CopyJsons_0 (cf:CallF) (lf:Nat):M:=fun a b c=>lenL a.c0.c2 fun d=>lssW a.c0.c1 d fun f=>condV f (c X.n a b) (c (X.x 0) a b)
def z_CopyJsons_1 (cf:CallF) (lf:Nat):M:=fun a b c=>iadV 5 a.c0.c2 a.c0.c1 fun d=>lda 5 d b fun f=>cf Nf_z_CopyJson (vl [f]) b fun g i=>resv 1 i fun j m=>part 0 false 5 g (vl [(wz 0),(wz 0),(vs []),V.x .slnil V.nil V.nil,V.x .slnil V.nil V.nil]) fun o=>bslA j 1 5 Ty_api_Json o m fun p q=>app 5 Ty_api_Json a.c0.c3 p q fun r s=>sl3 r a fun t=>c X.n t s
def z_CopyJsons_2 (cf:CallF) (lf:Nat):M:=fun a b c=>addW a.c0.c1 (wz 1) fun d=>sl1 d a fun f=>c X.n f b
def z_CopyJsons_3 (cf:CallF) (lf:Nat):M:=fun a b c=>sl1 (wz 0) a fun d=>blockM 0 (loopM lf (seqM (z_CopyJsons_0 cf lf) (seqM (blockM 1 (z_CopyJsons_1 cf lf)) (z_CopyJsons_2 cf lf)))) d b c
def z_CopyJsons_4 (cf:CallF) (lf:Nat):M:=fun a b c=>sl0 a.c0.c3 a fun d=>c X.r d b
def z_CopyJsons_5 (cf:CallF) (lf:Nat):M:=fun a b c=>sl0 (V.x .slnil V.nil V.nil) a fun d=>sl3 (V.x .slnil V.nil V.nil) d fun f=>seqM (z_CopyJsons_3 cf lf) (z_CopyJsons_4 cf lf) f b c
def T_z_CopyJsons (cf:CallF) (lf:Nat):V→H→KV→Bool:=fun l h k=>onCons l fun a b=>onNil b ((z_CopyJsons_5 cf lf) (⟨⟨V.u,V.u,a,V.u,V.u,V.u,V.u,V.u⟩,n8 V.u,n8 V.u,n8 V.u,n8 V.u,n8 V.u,n8 V.u,n8 V.u⟩ : L8) h (fun x e h=>finK (fun e h k=>k e.c0.c0) k x e h))
def j_May_0 (cf:CallF) (lf:Nat) (a:V):M:=fun b c d=>lenL a fun f=>lssW f (wz 1) fun g=>guardF g c (fun i=>i a c) fun j m=>guardF g m (fun o=>lenL j fun p=>o p m) fun q s=>guardF g s (fun u=>gtrW q (wz 300) fun w=>u w s) fun x y=>pickV g (V.t true) x fun z=>condV z (sl0 (V.t false) b (fun A=>d X.r A y)) (d X.n b y)
def j_May_1 (cf:CallF) (lf:Nat) (a:V):M:=fun b c d=>condV a (d X.n b c) (d (X.x 0) b c)
def j_May_2 (cf:CallF) (lf:Nat) (a:V):M:=fun b c d=>lda 5 a c fun f=>cf Nf_j_node (vl [f]) c fun g i=>notV g fun j=>condV j (sl0 (V.t false) b (fun m=>d X.r m i)) (d X.n b i)
def j_May_3 (cf:CallF) (lf:Nat) (a:V):M:=fun b c d=>notV a fun f=>condV f (sl0 (V.t false) b (fun g=>d X.r g c)) (d X.n b c)
def j_May_4 (cf:CallF) (lf:Nat):M:=fun a b c=>lda 2 a.c0.c7 b fun d=>resv 1 b fun f g=>part 0 false 2 d (vl [(wz 0),(wz 0)]) fun i=>bslA f 1 2 Ty_json_shape i g fun j m=>app 2 Ty_json_shape a.c0.c5 j m fun o p=>sl5 o a fun q=>c X.n q p
def j_May_5 (cf:CallF) (lf:Nat):M:=fun a b c=>cf Nf_j_shaped (vl [a.c0.c1,a.c0.c5,a.c0.c6]) b fun d f=>ext 0 d fun g=>ext 1 d fun i=>resv 1 f fun j m=>newA j false 2 Ty_json_shape (V.x .agg (vl [(wz 0),(wz 0)]) V.nil) m fun n o=>sl7 n a fun p=>st false 2 n g o fun q r=>seqM (j_May_3 cf lf i) (j_May_4 cf lf) p r c
def j_May_6 (cf:CallF) (lf:Nat):M:=fun a b c=>iadV 5 a.c0.c4 a.c0.c2 fun d=>lda 5 d b fun f=>resv 1 b fun g i=>newA g false 5 Ty_api_Json (V.x .agg (vl [(wz 0),(wz 0),(vs []),V.x .slnil V.nil V.nil,V.x .slnil V.nil V.nil]) V.nil) i fun j m=>sl6 a.c0.c2 a fun n=>st false 5 j f m fun o p=>seqM (j_May_2 cf lf j) (j_May_5 cf lf) n p c
def j_May_7 (cf:CallF) (lf:Nat):M:=fun a b c=>addW a.c0.c2 (wz 1) fun d=>sl2 d a fun f=>c X.n f b
def j_May_8 (cf:CallF) (lf:Nat):M:=fun a b c=>lssW a.c0.c2 a.c0.c3 fun d=>seqM (j_May_1 cf lf d) (seqM (blockM 1 (j_May_6 cf lf)) (j_May_7 cf lf)) a b c
def j_May_9 (cf:CallF) (lf:Nat):M:=fun a b c=>sl4 a.c0.c1 a fun d=>lenL a.c0.c1 fun f=>sl3 f d fun g=>sl2 (wz 0) g fun i=>blockM 0 (loopM lf (j_May_8 cf lf)) i b c
def j_May_10 (cf:CallF) (lf:Nat):M:=fun a b c=>lenL a.c0.c1 fun d=>subW d (wz 1) fun f=>iadV 2 a.c0.c5 f fun g=>fadV 0 g fun i=>ld1 i b fun j=>lenL a.c0.c1 fun m=>eqlW j m fun n=>sl0 n a fun o=>c X.r o b
def j_May_11 (cf:CallF) (lf:Nat):M:=fun a b c=>sl5 (V.x .slnil V.nil V.nil) a fun d=>seqM (j_May_9 cf lf) (j_May_10 cf lf) d b c
def j_May_12 (cf:CallF) (lf:Nat) (a:V):M:=fun b c d=>sl0 (V.t false) b fun f=>seqM (j_May_0 cf lf a) (j_May_11 cf lf) f c d
def T_j_May (cf:CallF) (lf:Nat):V→H→KV→Bool:=fun l h k=>onCons l fun a b=>onNil b ((j_May_12 cf lf a) (⟨⟨V.u,a,V.u,V.u,V.u,V.u,V.u,V.u⟩,n8 V.u,n8 V.u,n8 V.u,n8 V.u,n8 V.u,n8 V.u,n8 V.u⟩ : L8) h (fun x e h=>finK (fun e h k=>k e.c0.c0) k x e h))
def j_Text_0 (cf:CallF) (lf:Nat) (a:V):M:=fun b c d=>sl0 (vs []) b fun f=>resv 1 c fun g i=>newA g false 2 Ty_strings_Builder (V.x .agg (vl [V.x .pnil V.nil V.nil,V.x .slnil V.nil V.nil]) V.nil) i fun j m=>lenL a fun n=>subW n (wz 1) fun o=>cf Nf_j_spell (vl [j,a,o]) m fun p q=>cf Nf_st_Builder_String (vl [j]) q fun s t=>sl0 s f fun u=>d X.r u t
def T_j_Text (cf:CallF) (lf:Nat):V→H→KV→Bool:=fun l h k=>onCons l fun a b=>onNil b ((j_Text_0 cf lf a) (⟨n8 V.u,n8 V.u,n8 V.u,n8 V.u,n8 V.u,n8 V.u,n8 V.u,n8 V.u⟩ : L8) h (fun x e h=>finK (fun e h k=>k e.c0.c0) k x e h))
def l0_Texts_0 (cf:CallF) (lf:Nat):M:=fun a b c=>lenL a.c0.c2 fun d=>lssW a.c0.c1 d fun f=>guardT f b (fun g=>g a.c0.c3 b) fun i j=>guardT f j (fun m=>lssW i (wz 1048576) fun o=>m o j) fun p q=>pickV f p (V.t false) fun r=>condV r (c X.n a q) (c (X.x 0) a q)
def l0_Texts_1 (cf:CallF) (lf:Nat):M:=fun a b c=>iadV 1 a.c0.c2 a.c0.c1 fun d=>ld1 d b fun f=>lenS f fun g=>addW a.c0.c3 g fun i=>sl3 i a fun j=>c X.n j b
def l0_Texts_2 (cf:CallF) (lf:Nat):M:=fun a b c=>addW a.c0.c1 (wz 1) fun d=>sl1 d a fun f=>c X.n f b
def l0_Texts_3 (cf:CallF) (lf:Nat):M:=fun a b c=>sl1 (wz 0) a fun d=>blockM 0 (loopM lf (seqM (l0_Texts_0 cf lf) (seqM (blockM 1 (l0_Texts_1 cf lf)) (l0_Texts_2 cf lf)))) d b c
def l0_Texts_4 (cf:CallF) (lf:Nat):M:=fun a b c=>sl0 a.c0.c3 a fun d=>c X.r d b
def l0_Texts_5 (cf:CallF) (lf:Nat) (a:V):M:=fun b c d=>sl0 (wz 0) b fun f=>lenL a fun g=>sl3 g f fun i=>seqM (l0_Texts_3 cf lf) (l0_Texts_4 cf lf) i c d
def T_l0_Texts (cf:CallF) (lf:Nat):V→H→KV→Bool:=fun l h k=>onCons l fun a b=>onNil b ((l0_Texts_5 cf lf a) (⟨⟨V.u,V.u,a,V.u,V.u,V.u,V.u,V.u⟩,n8 V.u,n8 V.u,n8 V.u,n8 V.u,n8 V.u,n8 V.u,n8 V.u⟩ : L8) h (fun x e h=>finK (fun e h k=>k e.c0.c0) k x e h))
def j_parser_see_0 (cf:CallF) (lf:Nat) (a:V) (b:H) (c:V) (d:V) (f:L8) (g:KX):Bool:=guardF a b (fun i=>i c b) fun j m=>guardF a m (fun o=>nilckV j fun p=>o p m) fun q s=>guardF a s (fun u=>fadV 0 q fun w=>u w s) fun x y=>guardF a y (fun z=>ld1 x y fun A=>z A y) fun B D=>guardF a D (fun E=>lenS B fun F=>E F D) fun G I=>guardF a I (fun J=>geqV d G fun N=>J N I) fun O P=>pickV a (V.t true) O fun Q=>condV Q (sl0 (vy 0) f (fun R=>g X.r R P)) (g X.n f P)
def j_parser_see_1 (cf:CallF) (lf:Nat) (a:V):M:=fun b c d=>resv 0 c fun f g=>nilckV a fun i=>fadV 5 i fun j=>ld1 j g fun m=>neqW m (wz 0) fun n=>guardF n g (fun o=>o a g) fun p q=>guardF n q (fun r=>nilckV p fun s=>r s q) fun t u=>guardF n u (fun w=>fadV 1 t fun x=>w x u) fun y z=>guardF n z (fun A=>ld1 y z fun B=>A B z) fun D E=>j_parser_see_0 cf lf n E a D b d
def j_parser_see_2 (cf:CallF) (lf:Nat):M:=fun a b c=>resv 0 b fun d f=>nilckV a.c0.c1 fun g=>fadV 0 g fun i=>ld1 i f fun j=>nilckV a.c0.c1 fun m=>fadV 1 m fun n=>ld1 n f fun o=>sidxV j o fun p=>sl0 p a fun q=>c X.r q f
def j_parser_see_3 (cf:CallF) (lf:Nat) (a:V):M:=fun b c d=>sl0 (vy 0) b fun f=>seqM (j_parser_see_1 cf lf a) (j_parser_see_2 cf lf) f c d
def T_j_parser_see (cf:CallF) (lf:Nat):V→H→KV→Bool:=fun l h k=>onCons l fun a b=>onNil b ((j_parser_see_3 cf lf a) (⟨⟨V.u,a,V.u,V.u,V.u,V.u,V.u,V.u⟩,n8 V.u,n8 V.u,n8 V.u,n8 V.u,n8 V.u,n8 V.u,n8 V.u⟩ : L8) h (fun x e h=>finK (fun e h k=>k e.c0.c0) k x e h))
def j_parser_nested_0 (cf:CallF) (lf:Nat) (a:V) (b:V) (c:V):M:=fun d f g=>eqlY a (vy 91) fun i=>condV i (cf Nf_j_parser_list (vl [b]) f (fun j m=>fadV 4 c fun o=>st true 1 o j m fun p q=>g X.n d q)) (fadV 0 c (fun r=>st true 1 r (wz 7) f fun s t=>cf Nf_j_parser_pairs (vl [b]) t fun u w=>ext 0 u fun x=>ext 1 u fun y=>fadV 3 c fun z=>st true 1 z x w fun A B=>fadV 4 c fun D=>st true 1 D y B fun E F=>g X.n d F))
def j_parser_nested_1 (cf:CallF) (lf:Nat):M:=fun a b c=>nilckV a.c0.c1 fun d=>fadV 4 d fun f=>ld1 f b fun g=>subW g (wz 1) fun i=>nilckV a.c0.c1 fun j=>fadV 4 j fun m=>st true 1 m i b fun n o=>lda 5 a.c0.c2 o fun p=>st false 5 a.c0.c0 p o fun q s=>c X.r a s
def j_parser_nested_2 (cf:CallF) (lf:Nat) (a:H) (b:L8) (c:V) (d:V) (f:KX):Bool:=part 0 true 1 (wz 6) (vl [(wz 0),(wz 0),(vs []),V.x .slnil V.nil V.nil,V.x .slnil V.nil V.nil]) fun g=>resv 1 a fun i j=>newA i false 5 Ty_api_Json (V.x .agg (vl [(wz 0),(wz 0),(vs []),V.x .slnil V.nil V.nil,V.x .slnil V.nil V.nil]) V.nil) j fun m n=>sl2 m b fun o=>st false 5 m (V.x .agg g V.nil) n fun p q=>seqM (j_parser_nested_0 cf lf c d m) (j_parser_nested_1 cf lf) o q f
def j_parser_nested_3 (cf:CallF) (lf:Nat) (a:V) (b:V):M:=fun c d f=>resv 1 d fun g i=>newA g false 5 Ty_api_Json (V.x .agg (vl [(wz 0),(wz 0),(vs []),V.x .slnil V.nil V.nil,V.x .slnil V.nil V.nil]) V.nil) i fun j m=>sl0 j c fun n=>cf Nf_j_parser_begin (vl [a,V.t true]) m fun o p=>cf Nf_j_parser_take (vl [a,b]) p fun q r=>nilckV a fun s=>fadV 4 s fun u=>ld1 u r fun w=>addW w (wz 1) fun y=>nilckV a fun z=>fadV 4 z fun A=>st true 1 A y r fun B D=>j_parser_nested_2 cf lf D n b a f
def T_j_parser_nested (cf:CallF) (lf:Nat):V→H→KV→Bool:=fun l h k=>onCons l fun a b=>onCons b fun c d=>onNil d ((j_parser_nested_3 cf lf a c) (⟨⟨V.u,a,V.u,V.u,V.u,V.u,V.u,V.u⟩,n8 V.u,n8 V.u,n8 V.u,n8 V.u,n8 V.u,n8 V.u,n8 V.u⟩ : L8) h (fun x e h=>finK (fun e h k=>lda 5 e.c0.c0 h k) k x e h))
def j_parser_begin_0 (cf:CallF) (lf:Nat) (a:V) (b:H) (c:V) (d:V) (f:V) (g:KX) (i:L8):Bool:=guardT a b (fun j=>fadV 4 c fun m=>j m b) fun o p=>guardT a p (fun q=>ld1 o p fun r=>q r p) fun s u=>guardT a u (fun w=>geqV s (wz 8) fun x=>w x u) fun y z=>guardF d z (fun A=>pickV a y (V.t false) fun B=>A B z) fun D E=>pickV d (V.t true) D fun F=>condV F (nilckV f (fun G=>fadV 1 G fun I=>ld1 I E fun J=>cf Nf_j_parser_bad (vl [f,(wz 2),J]) E fun N O=>g X.n i O)) (g X.n i E)
def j_parser_begin_1 (cf:CallF) (lf:Nat) (a:V) (b:V):M:=fun c d f=>nilckV a fun g=>fadV 3 g fun i=>ld1 i d fun j=>geqV j (wz 300) fun m=>guardF m d (fun n=>n b d) fun o p=>guardF m p (fun q=>q o p) fun r s=>guardT r s (fun t=>t a s) fun u w=>guardT r w (fun x=>nilckV u fun y=>x y w) fun z A=>j_parser_begin_0 cf lf r A z m a f c
def j_parser_begin_2 (cf:CallF) (lf:Nat):M:=fun a b c=>nilckV a.c0.c0 fun d=>fadV 3 d fun f=>ld1 f b fun g=>addW g (wz 1) fun i=>nilckV a.c0.c0 fun j=>fadV 3 j fun m=>st true 1 m i b fun o p=>c X.n a p
def T_j_parser_begin (cf:CallF) (lf:Nat):V→H→KV→Bool:=fun l h k=>onCons l fun a b=>onCons b fun c d=>onNil d ((seqM (j_parser_begin_1 cf lf a c) (j_parser_begin_2 cf lf)) (⟨⟨a,V.u,V.u,V.u,V.u,V.u,V.u,V.u⟩,n8 V.u,n8 V.u,n8 V.u,n8 V.u,n8 V.u,n8 V.u,n8 V.u⟩ : L8) h (fun x e h=>finK (fun e h k=>k (V.x .tup V.nil V.nil)) k x e h))
def j_parser_text_0 (cf:CallF) (lf:Nat) (a:V) (b:V):M:=fun c d f=>notV a fun g=>condV g (nilckV b (fun i=>fadV 1 i fun j=>ld1 j d fun m=>cf Nf_j_parser_bad (vl [b,(wz 4),m]) d fun o p=>sl0 (vs []) c fun q=>f X.r q p)) (f X.n c d)
def j_parser_text_1 (cf:CallF) (lf:Nat):M:=fun a b c=>nilckV a.c0.c1 fun d=>fadV 1 d fun f=>ld1 f b fun g=>addW g a.c0.c2 fun i=>nilckV a.c0.c1 fun j=>fadV 1 j fun m=>st true 1 m i b fun n o=>sl0 a.c0.c3 a fun p=>c X.r p o
def j_parser_text_2 (cf:CallF) (lf:Nat) (a:V):M:=fun b c d=>sl0 (vs []) b fun f=>resv 0 c fun g i=>nilckV a fun j=>fadV 0 j fun m=>ld1 m i fun n=>nilckV a fun o=>fadV 1 o fun p=>ld1 p i fun q=>sstr (some q) none n fun r=>cf Nf_j_String (vl [r]) i fun s t=>ext 0 s fun u=>ext 1 s fun w=>ext 2 s fun x=>sl3 u f fun y=>sl2 w y fun z=>seqM (j_parser_text_0 cf lf x a) (j_parser_text_1 cf lf) z t d
def T_j_parser_text (cf:CallF) (lf:Nat):V→H→KV→Bool:=fun l h k=>onCons l fun a b=>onNil b ((j_parser_text_2 cf lf a) (⟨⟨V.u,a,V.u,V.u,V.u,V.u,V.u,V.u⟩,n8 V.u,n8 V.u,n8 V.u,n8 V.u,n8 V.u,n8 V.u,n8 V.u⟩ : L8) h (fun x e h=>finK (fun e h k=>k e.c0.c0) k x e h))
def j_digit_0 (cf:CallF) (lf:Nat) (a:V):M:=fun b c d=>sl0 (V.t false) b fun f=>geqY a (vy 48) fun g=>guardT g c (fun i=>i a c) fun j m=>guardT g m (fun n=>leqY j (vy 57) fun o=>n o m) fun p q=>pickV g p (V.t false) fun s=>sl0 s f fun u=>d X.r u q
def T_j_digit (cf:CallF) (lf:Nat):V→H→KV→Bool:=fun l h k=>onCons l fun a b=>onNil b ((j_digit_0 cf lf a) (⟨n8 V.u,n8 V.u,n8 V.u,n8 V.u,n8 V.u,n8 V.u,n8 V.u,n8 V.u⟩ : L8) h (fun x e h=>finK (fun e h k=>k e.c0.c0) k x e h))
def j_parser_number_0 (cf:CallF) (lf:Nat) (a:V) (b:V):M:=fun c d f=>notV a fun g=>condV g (nilckV b (fun i=>fadV 1 i fun j=>ld1 j d fun m=>cf Nf_j_parser_bad (vl [b,(wz 4),m]) d fun o p=>f X.n c p)) (f X.n c d)
def j_parser_number_1 (cf:CallF) (lf:Nat):M:=fun a b c=>nilckV a.c0.c1 fun d=>fadV 1 d fun f=>ld1 f b fun g=>addW g a.c0.c2 fun i=>nilckV a.c0.c1 fun j=>fadV 1 j fun m=>st true 1 m i b fun n o=>sl0 a.c0.c3 a fun p=>c X.r p o
def j_parser_number_2 (cf:CallF) (lf:Nat) (a:V):M:=fun b c d=>sl0 (wz 0) b fun f=>resv 0 c fun g i=>nilckV a fun j=>fadV 0 j fun m=>ld1 m i fun n=>nilckV a fun o=>fadV 1 o fun p=>ld1 p i fun q=>sstr (some q) none n fun r=>cf Nf_j_Number (vl [r]) i fun s t=>ext 0 s fun u=>ext 1 s fun w=>ext 2 s fun x=>sl3 u f fun y=>sl2 w y fun z=>seqM (j_parser_number_0 cf lf x a) (j_parser_number_1 cf lf) z t d
def T_j_parser_number (cf:CallF) (lf:Nat):V→H→KV→Bool:=fun l h k=>onCons l fun a b=>onNil b ((j_parser_number_2 cf lf a) (⟨⟨V.u,a,V.u,V.u,V.u,V.u,V.u,V.u⟩,n8 V.u,n8 V.u,n8 V.u,n8 V.u,n8 V.u,n8 V.u,n8 V.u⟩ : L8) h (fun x e h=>finK (fun e h k=>k e.c0.c0) k x e h))
def st_IndexByte_0 (cf:CallF) (lf:Nat) (a:V) (b:V):M:=fun c d f=>sl0 (wz 0) c fun g=>cf Nf_sl_IndexByte (vl [a,b]) d fun i j=>sl0 i g fun m=>f X.r m j
def T_st_IndexByte (cf:CallF) (lf:Nat):V→H→KV→Bool:=fun l h k=>onCons l fun a b=>onCons b fun c d=>onNil d ((st_IndexByte_0 cf lf a c) (⟨n8 V.u,n8 V.u,n8 V.u,n8 V.u,n8 V.u,n8 V.u,n8 V.u,n8 V.u⟩ : L8) h (fun x e h=>finK (fun e h k=>k e.c0.c0) k x e h))
def j_parser_literal_0 (cf:CallF) (lf:Nat) (a:V):M:=fun b c d=>condV a (d X.n b c) (d (X.x 0) b c)
def j_parser_literal_1 (cf:CallF) (lf:Nat):M:=fun a b c=>sidxV a.c0.c3 a.c0.c0 fun d=>cf Nf_j_parser_take (vl [a.c0.c2,d]) b fun f g=>c X.n a g
def j_parser_literal_2 (cf:CallF) (lf:Nat):M:=fun a b c=>addW a.c0.c0 (wz 1) fun d=>sl0 d a fun f=>c X.n f b
def j_parser_literal_3 (cf:CallF) (lf:Nat):M:=fun a b c=>lssW a.c0.c0 a.c0.c1 fun d=>seqM (j_parser_literal_0 cf lf d) (seqM (blockM 1 (j_parser_literal_1 cf lf)) (j_parser_literal_2 cf lf)) a b c
def j_parser_literal_4 (cf:CallF) (lf:Nat) (a:V):M:=fun b c d=>lenS a fun f=>sl1 f b fun g=>sl0 (wz 0) g fun i=>blockM 0 (loopM lf (j_parser_literal_3 cf lf)) i c d
def T_j_parser_literal (cf:CallF) (lf:Nat):V→H→KV→Bool:=fun l h k=>onCons l fun a b=>onCons b fun c d=>onNil d ((j_parser_literal_4 cf lf c) (⟨⟨V.u,V.u,a,c,V.u,V.u,V.u,V.u⟩,n8 V.u,n8 V.u,n8 V.u,n8 V.u,n8 V.u,n8 V.u,n8 V.u⟩ : L8) h (fun x e h=>finK (fun e h k=>k (V.x .tup V.nil V.nil)) k x e h))
def j_parser_add_0 (cf:CallF) (lf:Nat) (a:H) (b:V) (c:V) (d:L8) (f:KX):Bool:=resv 1 a fun g i=>nilckV b fun j=>fadV 2 j fun m=>ld1 m i fun n=>lda 5 c i fun o=>part 0 false 5 o (vl [(wz 0),(wz 0),(vs []),V.x .slnil V.nil V.nil,V.x .slnil V.nil V.nil]) fun p=>bslA (Nat.add g 0) 1 5 Ty_api_Json p i fun q s=>app 5 Ty_api_Json n q s fun t u=>nilckV b fun w=>fadV 2 w fun y=>st true 1 y t u fun z A=>nilckV b fun B=>fadV 2 B fun D=>ld1 D A fun E=>lenL E fun F=>subW F (wz 1) fun G=>sl0 G d fun I=>f X.r I A
def j_parser_add_1 (cf:CallF) (lf:Nat) (a:V) (b:V):M:=fun c d f=>resv 1 d fun g i=>newA g false 5 Ty_api_Json a i fun j m=>sl0 (wz 0) c fun n=>j_parser_add_0 cf lf m b j n f
def T_j_parser_add (cf:CallF) (lf:Nat):V→H→KV→Bool:=fun l h k=>onCons l fun a b=>onCons b fun c d=>onNil d ((j_parser_add_1 cf lf c a) (⟨n8 V.u,n8 V.u,n8 V.u,n8 V.u,n8 V.u,n8 V.u,n8 V.u,n8 V.u⟩ : L8) h (fun x e h=>finK (fun e h k=>k e.c0.c0) k x e h))
def r_reader_see_0 (cf:CallF) (lf:Nat) (a:V):M:=fun b c d=>resv 0 c fun f g=>nilckV a fun i=>fadV 1 i fun j=>ld1 j g fun m=>nilckV a fun o=>fadV 0 o fun p=>ld1 p g fun q=>lenS q fun s=>lssW m s fun t=>condV t (resv 0 g (fun u w=>nilckV a fun x=>fadV 0 x fun y=>ld1 y w fun z=>nilckV a fun A=>fadV 1 A fun B=>ld1 B w fun D=>sidxV z D fun E=>sl0 E b fun F=>d X.r F w)) (d X.n b g)
def r_reader_see_1 (cf:CallF) (lf:Nat):M:=fun a b c=>sl0 (vy 0) a fun d=>c X.r d b
def r_reader_see_2 (cf:CallF) (lf:Nat) (a:V):M:=fun b c d=>sl0 (vy 0) b fun f=>seqM (r_reader_see_0 cf lf a) (r_reader_see_1 cf lf) f c d
def T_r_reader_see (cf:CallF) (lf:Nat):V→H→KV→Bool:=fun l h k=>onCons l fun a b=>onNil b ((r_reader_see_2 cf lf a) (⟨n8 V.u,n8 V.u,n8 V.u,n8 V.u,n8 V.u,n8 V.u,n8 V.u,n8 V.u⟩ : L8) h (fun x e h=>finK (fun e h k=>k e.c0.c0) k x e h))
def r_reader_word_0 (cf:CallF) (lf:Nat):M:=fun a b c=>lenS a.c0.c1 fun d=>lssW a.c0.c0 d fun f=>condV f (c X.n a b) (c (X.x 0) a b)
def r_reader_word_1 (cf:CallF) (lf:Nat):M:=fun a b c=>sidxV a.c0.c1 a.c0.c0 fun d=>cf Nf_r_reader_takes (vl [a.c0.c2,d]) b fun f g=>c X.n a g
def r_reader_word_2 (cf:CallF) (lf:Nat):M:=fun a b c=>addW a.c0.c0 (wz 1) fun d=>sl0 d a fun f=>c X.n f b
def r_reader_word_3 (cf:CallF) (lf:Nat):M:=fun a b c=>sl0 (wz 0) a fun d=>blockM 0 (loopM lf (seqM (r_reader_word_0 cf lf) (seqM (blockM 1 (r_reader_word_1 cf lf)) (r_reader_word_2 cf lf)))) d b c
def r_reader_word_4 (cf:CallF) (lf:Nat):M:=fun a b c=>part 0 true 1 a.c0.c3 (vl [(wz 0),(wz 0),(vs []),V.x .slnil V.nil V.nil,V.x .slnil V.nil V.nil]) fun d=>cf Nf_r_reader_add (vl [a.c0.c2,V.x .agg d V.nil]) b fun f g=>c X.n a g
def T_r_reader_word (cf:CallF) (lf:Nat):V→H→KV→Bool:=fun l h k=>onCons l fun a b=>onCons b fun c d=>onCons d fun f g=>onNil g ((seqM (r_reader_word_3 cf lf) (r_reader_word_4 cf lf)) (⟨⟨V.u,c,a,f,V.u,V.u,V.u,V.u⟩,n8 V.u,n8 V.u,n8 V.u,n8 V.u,n8 V.u,n8 V.u,n8 V.u⟩ : L8) h (fun x e h=>finK (fun e h k=>k (V.x .tup V.nil V.nil)) k x e h))
def r_reader_text_0 (cf:CallF) (lf:Nat):M:=fun a b c=>nilckV a.c0.c1 fun d=>fadV 4 d fun f=>ld1 f b fun g=>eqlW g (wz 0) fun i=>condV i (c X.n a b) (c (X.x 0) a b)
def r_reader_text_1 (cf:CallF) (lf:Nat):M:=fun a b c=>resv 0 b fun d f=>nilckV a.c0.c1 fun g=>fadV 1 g fun i=>ld1 i f fun j=>nilckV a.c0.c1 fun m=>fadV 0 m fun o=>ld1 o f fun p=>lenS p fun q=>geqV j q fun r=>condV r (cf Nf_r_reader_fails (vl [a.c0.c1,(wz 4),a.c0.c2]) f (fun s t=>c (X.x 0) a t)) (c X.n a f)
def r_reader_text_2 (cf:CallF) (lf:Nat) (a:V):M:=fun b c d=>eqlY a (vy 34) fun f=>condV f (b2s b.c0.c3 c (fun g=>sl0 g b fun i=>d X.r i c)) (d X.n b c)
def r_reader_text_3 (cf:CallF) (lf:Nat) (a:V) (b:H) (c:V) (d:L8) (f:KX):Bool:=guardF a b (fun g=>neqY c (vy 34) fun i=>g i b) fun j m=>guardF a m (fun o=>o j m) fun p q=>guardT p q (fun r=>r d.c0.c1 q) fun s u=>guardT p u (fun w=>nilckV s fun y=>w y u) fun z A=>guardT p A (fun B=>fadV 0 z fun D=>B D A) fun E F=>guardT p F (fun G=>ld1 E F fun I=>G I F) fun J N=>guardT p N (fun O=>O d.c0.c1 N) fun P Q=>guardT p Q (fun R=>nilckV P fun S=>R S Q) fun T U=>guardT p U (fun W=>fadV 1 T fun Y=>W Y U) fun Z a0=>guardT p a0 (fun a1=>ld1 Z a0 fun a2=>a1 a2 a0) fun a3 a4=>guardT p a4 (fun a5=>sidxV J a3 fun a6=>a5 a6 a4) fun a7 a8=>guardT p a8 (fun a9=>neqY a7 (vy 92) fun b0=>a9 b0 a8) fun b1 b2=>guardF a b2 (fun b3=>pickV p b1 (V.t false) fun b4=>b3 b4 b2) fun b5 b6=>pickV a (V.t true) b5 fun b7=>condV b7 (cf Nf_r_reader_fails (vl [d.c0.c1,(wz 4),d.c0.c2]) b6 (fun b8 b9=>f (X.x 0) d b9)) (f X.n d b6)
def r_reader_text_4 (cf:CallF) (lf:Nat) (a:V) (b:H) (c:L8) (d:KX):Bool:=guardF a b (fun f=>f c.c0.c1 b) fun g i=>guardF a i (fun j=>nilckV g fun m=>j m i) fun n o=>guardF a o (fun p=>fadV 0 n fun q=>p q o) fun r s=>guardF a s (fun t=>ld1 r s fun u=>t u s) fun w x=>guardF a x (fun y=>y c.c0.c1 x) fun z A=>guardF a A (fun B=>nilckV z fun D=>B D A) fun E F=>guardF a F (fun G=>fadV 1 E fun I=>G I F) fun J N=>guardF a N (fun O=>ld1 J N fun P=>O P N) fun Q R=>guardF a R (fun S=>sidxV w Q fun T=>S T R) fun U W=>r_reader_text_3 cf lf a W U c d
def r_reader_text_5 (cf:CallF) (lf:Nat):M:=fun a b c=>resv 0 b fun d f=>nilckV a.c0.c1 fun g=>fadV 1 g fun i=>ld1 i f fun j=>nilckV a.c0.c1 fun m=>fadV 0 m fun n=>ld1 n f fun o=>lenS o fun p=>geqV j p fun q=>r_reader_text_4 cf lf q f a c
def r_reader_text_6 (cf:CallF) (lf:Nat):M:=fun a b c=>resv 0 b fun d f=>nilckV a.c0.c1 fun g=>fadV 0 g fun i=>ld1 i f fun j=>nilckV a.c0.c1 fun m=>fadV 1 m fun o=>ld1 o f fun p=>sidxV j p fun q=>sl4 q a fun r=>nilckV r.c0.c1 fun s=>fadV 1 s fun t=>ld1 t f fun u=>addW u (wz 1) fun w=>nilckV r.c0.c1 fun x=>fadV 1 x fun y=>st true 1 y w f fun z A=>c X.n r A
def r_reader_text_7 (cf:CallF) (lf:Nat):M:=fun a b c=>eqlY a.c0.c4 (vy 92) fun d=>condV d (seqM (r_reader_text_5 cf lf) (r_reader_text_6 cf lf) a b c) (c X.n a b)
def r_reader_text_8 (cf:CallF) (lf:Nat):M:=fun a b c=>lssY a.c0.c4 (vy 32) fun d=>guardF d b (fun f=>f a.c0.c4 b) fun g i=>guardF d i (fun j=>gtrY g (vy 126) fun m=>j m i) fun o p=>pickV d (V.t true) o fun q=>condV q (cf Nf_r_reader_fails (vl [a.c0.c1,(wz 4),a.c0.c2]) p (fun r s=>c X.n a s)) (c X.n a p)
def r_reader_text_9 (cf:CallF) (lf:Nat):M:=fun a b c=>resv 1 b fun d f=>part 0 true 1 a.c0.c4 (vl [(vy 0)]) fun g=>bslA d 1 1 Ty_uint8 g f fun i j=>app 1 Ty_uint8 a.c0.c3 i j fun m o=>sl3 m a fun p=>c X.n p o
def r_reader_text_10 (cf:CallF) (lf:Nat):M:=fun a b c=>resv 0 b fun d f=>nilckV a.c0.c1 fun g=>fadV 0 g fun i=>ld1 i f fun j=>nilckV a.c0.c1 fun m=>fadV 1 m fun n=>ld1 n f fun o=>sidxV j o fun p=>sl4 p a fun q=>nilckV q.c0.c1 fun r=>fadV 1 r fun s=>ld1 s f fun t=>addW t (wz 1) fun u=>nilckV q.c0.c1 fun w=>fadV 1 w fun x=>st true 1 x u f fun y z=>seqM (r_reader_text_2 cf lf p) (seqM (r_reader_text_7 cf lf) (seqM (r_reader_text_8 cf lf) (r_reader_text_9 cf lf))) q z c
def r_reader_text_11 (cf:CallF) (lf:Nat):M:=fun a b c=>sl0 (vs []) a fun d=>c X.r d b
def r_reader_text_12 (cf:CallF) (lf:Nat) (a:V):M:=fun b c d=>sl0 (vs []) b fun f=>nilckV a fun g=>fadV 1 g fun i=>ld1 i c fun j=>sl2 j f fun m=>cf Nf_r_reader_takes (vl [a,(vy 34)]) c fun n o=>sl3 (V.x .slnil V.nil V.nil) m fun p=>seqM (blockM 0 (loopM lf (seqM (r_reader_text_0 cf lf) (blockM 1 (seqM (r_reader_text_1 cf lf) (r_reader_text_10 cf lf)))))) (r_reader_text_11 cf lf) p o d
def T_r_reader_text (cf:CallF) (lf:Nat):V→H→KV→Bool:=fun l h k=>onCons l fun a b=>onNil b ((r_reader_text_12 cf lf a) (⟨⟨V.u,a,V.u,V.u,V.u,V.u,V.u,V.u⟩,n8 V.u,n8 V.u,n8 V.u,n8 V.u,n8 V.u,n8 V.u,n8 V.u⟩ : L8) h (fun x e h=>finK (fun e h k=>k e.c0.c0) k x e h))
def r_reader_add_0 (cf:CallF) (lf:Nat) (a:H) (b:V) (c:V) (d:KX) (f:L8):Bool:=resv 1 a fun g i=>nilckV b fun j=>fadV 2 j fun m=>ld1 m i fun o=>lda 5 c i fun p=>part 0 false 5 p (vl [(wz 0),(wz 0),(vs []),V.x .slnil V.nil V.nil,V.x .slnil V.nil V.nil]) fun q=>bslA (Nat.add g 0) 1 5 Ty_api_Json q i fun r s=>app 5 Ty_api_Json o r s fun t u=>nilckV b fun w=>fadV 2 w fun y=>st true 1 y t u fun z A=>d X.n f A
def r_reader_add_1 (cf:CallF) (lf:Nat) (a:V) (b:V):M:=fun c d f=>resv 1 d fun g i=>newA g false 5 Ty_api_Json a i fun j m=>nilckV b fun o=>fadV 4 o fun p=>ld1 p m fun q=>eqlW q (wz 0) fun r=>condV r (r_reader_add_0 cf lf m b j f c) (f X.n c m)
def T_r_reader_add (cf:CallF) (lf:Nat):V→H→KV→Bool:=fun l h k=>onCons l fun a b=>onCons b fun c d=>onNil d ((r_reader_add_1 cf lf c a) (⟨n8 V.u,n8 V.u,n8 V.u,n8 V.u,n8 V.u,n8 V.u,n8 V.u,n8 V.u⟩ : L8) h (fun x e h=>finK (fun e h k=>k (V.x .tup V.nil V.nil)) k x e h))
def r_reader_many_0 (cf:CallF) (lf:Nat) (a:V) (b:V):M:=fun c d f=>condV a (fadV 0 b (fun g=>st true 1 g (wz 7) d fun i j=>sl2 (vy 125) c fun m=>f X.n m j)) (f X.n c d)
def r_reader_many_1 (cf:CallF) (lf:Nat) (a:V) (b:H) (c:V) (d:L8) (f:KX):Bool:=guardT a b (fun g=>g c b) fun i j=>guardF i j (fun m=>m d.c0.c0 j) fun o p=>guardF i p (fun q=>cf Nf_r_reader_see (vl [o]) p fun r s=>q r s) fun u w=>guardF i w (fun y=>y d.c0.c2 w) fun z A=>guardF i A (fun B=>neqY u z fun D=>B D A) fun E F=>guardT a F (fun G=>pickV i (V.t true) E fun I=>G I F) fun J N=>pickV a J (V.t false) fun O=>condV O (f X.n d N) (f (X.x 0) d N)
def r_reader_many_2 (cf:CallF) (lf:Nat):M:=fun a b c=>nilckV a.c0.c0 fun d=>fadV 4 d fun f=>ld1 f b fun g=>eqlW g (wz 0) fun i=>guardT i b (fun j=>fadV 4 a.c0.c1 fun m=>j m b) fun n o=>guardT i o (fun p=>ld1 n o fun q=>p q o) fun r s=>guardT i s (fun t=>lenL r fun u=>t u s) fun w x=>guardT i x (fun y=>gtrW w (wz 0) fun z=>y z x) fun A B=>r_reader_many_1 cf lf i B A a c
def r_reader_many_3 (cf:CallF) (lf:Nat) (a:V) (b:V):M:=fun c d f=>nilckV c.c0.c0 fun g=>fadV 4 g fun i=>ld1 i d fun j=>eqlW j (wz 0) fun m=>guardT m d (fun o=>fadV 3 c.c0.c1 fun p=>o p d) fun q r=>guardT m r (fun s=>ld1 q r fun u=>s u r) fun w x=>guardT m x (fun y=>y a x) fun z A=>guardT m A (fun B=>cf Nf_z_Has (vl [w,z]) A fun D E=>B D E) fun F G=>pickV m F (V.t false) fun I=>condV I (cf Nf_r_reader_fails (vl [c.c0.c0,(wz 4),b]) G (fun J N=>f X.n c N)) (f X.n c G)
def r_reader_many_4 (cf:CallF) (lf:Nat):M:=fun a b c=>fadV 3 a.c0.c1 fun d=>ld1 d b fun f=>resv 1 b fun g i=>part 0 true 1 a.c0.c4 (vl [(vs [])]) fun j=>bslA g 1 1 Ty_string j i fun m o=>app 1 Ty_string f m o fun p q=>fadV 3 a.c0.c1 fun r=>st true 1 r p q fun s t=>cf Nf_r_reader_blanks (vl [a.c0.c0]) t fun u w=>cf Nf_r_reader_takes (vl [a.c0.c0,(vy 58)]) w fun x y=>cf Nf_r_reader_blanks (vl [a.c0.c0]) y fun z A=>c X.n a A
def r_reader_many_5 (cf:CallF) (lf:Nat):M:=fun a b c=>condV a.c0.c3 (nilckV a.c0.c0 (fun d=>fadV 1 d fun f=>ld1 f b fun g=>cf Nf_r_reader_text (vl [a.c0.c0]) b fun i j=>sl4 i a fun m=>seqM (r_reader_many_3 cf lf i g) (r_reader_many_4 cf lf) m j c)) (c X.n a b)
def r_reader_many_6 (cf:CallF) (lf:Nat):M:=fun a b c=>nilckV a.c0.c0 fun d=>fadV 4 d fun f=>ld1 f b fun g=>neqW g (wz 0) fun i=>guardF i b (fun j=>j a.c0.c0 b) fun m o=>guardF i o (fun p=>cf Nf_r_reader_see (vl [m]) o fun q r=>p q r) fun s u=>guardF i u (fun w=>w a.c0.c2 u) fun y z=>guardF i z (fun A=>eqlY s y fun B=>A B z) fun D E=>pickV i (V.t true) D fun F=>condV F (c (X.x 0) a E) (c X.n a E)
def r_reader_many_7 (cf:CallF) (lf:Nat):M:=fun a b c=>cf Nf_r_reader_takes (vl [a.c0.c0,(vy 44)]) b fun d f=>cf Nf_r_reader_blanks (vl [a.c0.c0]) f fun g i=>c X.n a i
def r_reader_many_8 (cf:CallF) (lf:Nat):M:=fun a b c=>resv 1 b fun d f=>fadV 4 a.c0.c1 fun g=>ld1 g f fun i=>addW a.c0.c5 (wz 1) fun j=>cf Nf_r_reader_value (vl [a.c0.c0,j]) f fun m n=>ld1 g n fun o=>both (eqV o i) (part 0 true 1 m (vl [(wz 0)]) (fun p=>bslA (Nat.add d 0) 1 1 Ty_int p n fun q r=>app 1 Ty_int i q r fun s t=>fadV 4 a.c0.c1 fun u=>st true 1 u s t fun w x=>cf Nf_r_reader_blanks (vl [a.c0.c0]) x fun y z=>seqM (r_reader_many_6 cf lf) (r_reader_many_7 cf lf) a z c))
def r_reader_many_9 (cf:CallF) (lf:Nat):M:=fun a b c=>cf Nf_r_reader_takes (vl [a.c0.c0,a.c0.c2]) b fun d f=>lda 5 a.c0.c1 f fun g=>cf Nf_r_reader_add (vl [a.c0.c0,g]) f fun i j=>c X.n a j
def r_reader_many_10 (cf:CallF) (lf:Nat):M:=fun a b c=>nilckV a.c0.c0 fun d=>fadV 1 d fun f=>ld1 f b fun g=>addW g (wz 1) fun i=>nilckV a.c0.c0 fun j=>fadV 1 j fun m=>st true 1 m i b fun n o=>cf Nf_r_reader_blanks (vl [a.c0.c0]) o fun p q=>seqM (blockM 0 (loopM lf (seqM (r_reader_many_2 cf lf) (blockM 1 (seqM (r_reader_many_5 cf lf) (r_reader_many_8 cf lf)))))) (r_reader_many_9 cf lf) a q c
def r_reader_many_11 (cf:CallF) (lf:Nat) (a:V):M:=fun b c d=>part 0 true 1 (wz 6) (vl [(wz 0),(wz 0),(vs []),V.x .slnil V.nil V.nil,V.x .slnil V.nil V.nil]) fun f=>resv 1 c fun g i=>newA g false 5 Ty_api_Json (V.x .agg (vl [(wz 0),(wz 0),(vs []),V.x .slnil V.nil V.nil,V.x .slnil V.nil V.nil]) V.nil) i fun j m=>sl1 j b fun n=>st false 5 j (V.x .agg f V.nil) m fun o p=>sl2 (vy 93) n fun q=>seqM (r_reader_many_0 cf lf a j) (r_reader_many_10 cf lf) q p d
def T_r_reader_many (cf:CallF) (lf:Nat):V→H→KV→Bool:=fun l h k=>onCons l fun a b=>onCons b fun c d=>onCons d fun f g=>onNil g ((r_reader_many_11 cf lf f) (⟨⟨a,V.u,V.u,f,V.u,c,V.u,V.u⟩,n8 V.u,n8 V.u,n8 V.u,n8 V.u,n8 V.u,n8 V.u,n8 V.u⟩ : L8) h (fun x e h=>finK (fun e h k=>k (V.x .tup V.nil V.nil)) k x e h))
def r_Int_0 (cf:CallF) (lf:Nat) (a:V):M:=fun b c d=>lenS a fun f=>gtrW f (wz 0) fun g=>guardT g c (fun i=>i a c) fun j m=>guardT g m (fun o=>sidxV j (wz 0) fun p=>o p m) fun q r=>guardT g r (fun s=>eqlY q (vy 45) fun u=>s u r) fun w x=>pickV g w (V.t false) fun y=>condV y (sstr (some (wz 1)) none a (fun z=>sl2 z b fun A=>d X.n A x)) (d X.n b x)
def r_Int_1 (cf:CallF) (lf:Nat) (a:V) (b:H) (c:V) (d:L8) (f:KX):Bool:=guardF a b (fun g=>sidxV c (wz 0) fun i=>g i b) fun j m=>guardF a m (fun o=>eqlY j (vy 48) fun p=>o p m) fun q s=>guardF a s (fun u=>u q s) fun w x=>guardT w x (fun y=>y d.c0.c3 x) fun z A=>guardT w A (fun B=>neqS z (vs [48]) fun D=>B D A) fun E F=>guardF a F (fun G=>pickV w E (V.t false) fun I=>G I F) fun J N=>pickV a (V.t true) J fun O=>condV O (sl0 (wz 0) d (fun P=>sl1 (V.t false) P fun Q=>f X.r Q N)) (f X.n d N)
def r_Int_2 (cf:CallF) (lf:Nat):M:=fun a b c=>lenS a.c0.c2 fun d=>eqlW d (wz 0) fun f=>guardF f b (fun g=>g a.c0.c2 b) fun i j=>guardF f j (fun m=>lenS i fun n=>m n j) fun o p=>guardF f p (fun q=>gtrW o (wz 10) fun r=>q r p) fun s u=>pickV f (V.t true) s fun w=>guardF w u (fun x=>x a.c0.c2 u) fun y z=>r_Int_1 cf lf w z y a c
def r_Int_3 (cf:CallF) (lf:Nat):M:=fun a b c=>lenS a.c0.c2 fun d=>lssW a.c0.c4 d fun f=>condV f (c X.n a b) (c (X.x 0) a b)
def r_Int_4 (cf:CallF) (lf:Nat):M:=fun a b c=>sidxV a.c0.c2 a.c0.c4 fun d=>lssY d (vy 48) fun f=>guardF f b (fun g=>g a.c0.c2 b) fun i j=>guardF f j (fun m=>m a.c0.c4 j) fun o p=>guardF f p (fun q=>sidxV i o fun s=>q s p) fun u w=>guardF f w (fun x=>gtrY u (vy 57) fun y=>x y w) fun z A=>pickV f (V.t true) z fun B=>condV B (sl0 (wz 0) a (fun D=>sl1 (V.t false) D fun E=>c X.r E A)) (c X.n a A)
def r_Int_5 (cf:CallF) (lf:Nat):M:=fun a b c=>mulV (wz 10) a.c0.c5 fun d=>sidxV a.c0.c2 a.c0.c4 fun f=>subY f (vy 48) fun g=>toW g fun i=>addW d i fun j=>sl5 j a fun m=>c X.n m b
def r_Int_6 (cf:CallF) (lf:Nat):M:=fun a b c=>addW a.c0.c4 (wz 1) fun d=>sl4 d a fun f=>c X.n f b
def r_Int_7 (cf:CallF) (lf:Nat):M:=fun a b c=>sl4 (wz 0) a fun d=>blockM 0 (loopM lf (seqM (r_Int_3 cf lf) (seqM (blockM 1 (seqM (r_Int_4 cf lf) (r_Int_5 cf lf))) (r_Int_6 cf lf)))) d b c
def r_Int_8 (cf:CallF) (lf:Nat):M:=fun a b c=>gtrW a.c0.c5 (wz 1073741824) fun d=>condV d (sl0 (wz 0) a (fun f=>sl1 (V.t false) f fun g=>c X.r g b)) (c X.n a b)
def r_Int_9 (cf:CallF) (lf:Nat):M:=fun a b c=>lenS a.c0.c2 fun d=>lenS a.c0.c3 fun f=>lssW d f fun g=>condV g (negV a.c0.c5 (fun i=>sl5 i a fun j=>c X.n j b)) (c X.n a b)
def r_Int_10 (cf:CallF) (lf:Nat):M:=fun a b c=>sl0 a.c0.c5 a fun d=>sl1 (V.t true) d fun f=>c X.r f b
def r_Int_11 (cf:CallF) (lf:Nat):M:=fun a b c=>sl5 (wz 0) a fun d=>seqM (r_Int_7 cf lf) (seqM (r_Int_8 cf lf) (seqM (r_Int_9 cf lf) (r_Int_10 cf lf))) d b c
def r_Int_12 (cf:CallF) (lf:Nat) (a:V):M:=fun b c d=>sl0 (wz 0) b fun f=>sl1 (V.t false) f fun g=>sl2 a g fun i=>seqM (r_Int_0 cf lf a) (seqM (r_Int_2 cf lf) (r_Int_11 cf lf)) i c d
def T_r_Int (cf:CallF) (lf:Nat):V→H→KV→Bool:=fun l h k=>onCons l fun a b=>onNil b ((r_Int_12 cf lf a) (⟨⟨V.u,V.u,V.u,a,V.u,V.u,V.u,V.u⟩,n8 V.u,n8 V.u,n8 V.u,n8 V.u,n8 V.u,n8 V.u,n8 V.u⟩ : L8) h (fun x e h=>finK (fun e h k=>k (V.x .tup (vl [e.c0.c0,e.c0.c1]) V.nil)) k x e h))
def z_EqStrings_0 (cf:CallF) (lf:Nat) (a:V) (b:V):M:=fun c d f=>lenL a fun g=>lenL b fun i=>neqW g i fun j=>condV j (sl0 (V.t false) c (fun m=>f X.r m d)) (f X.n c d)
def z_EqStrings_1 (cf:CallF) (lf:Nat):M:=fun a b c=>lenL a.c0.c2 fun d=>lssW a.c0.c1 d fun f=>condV f (c X.n a b) (c (X.x 0) a b)
def z_EqStrings_2 (cf:CallF) (lf:Nat):M:=fun a b c=>resv 0 b fun d f=>iadV 1 a.c0.c2 a.c0.c1 fun g=>ld1 g f fun i=>iadV 1 a.c0.c3 a.c0.c1 fun j=>ld1 j f fun m=>neqS i m fun o=>condV o (sl0 (V.t false) a (fun p=>c X.r p f)) (c X.n a f)
def z_EqStrings_3 (cf:CallF) (lf:Nat):M:=fun a b c=>addW a.c0.c1 (wz 1) fun d=>sl1 d a fun f=>c X.n f b
def z_EqStrings_4 (cf:CallF) (lf:Nat):M:=fun a b c=>sl1 (wz 0) a fun d=>blockM 0 (loopM lf (seqM (z_EqStrings_1 cf lf) (seqM (blockM 1 (z_EqStrings_2 cf lf)) (z_EqStrings_3 cf lf)))) d b c
def z_EqStrings_5 (cf:CallF) (lf:Nat):M:=fun a b c=>sl0 (V.t true) a fun d=>c X.r d b
def z_EqStrings_6 (cf:CallF) (lf:Nat) (a:V) (b:V):M:=fun c d f=>sl0 (V.t false) c fun g=>seqM (z_EqStrings_0 cf lf a b) (seqM (z_EqStrings_4 cf lf) (z_EqStrings_5 cf lf)) g d f
def T_z_EqStrings (cf:CallF) (lf:Nat):V→H→KV→Bool:=fun l h k=>onCons l fun a b=>onCons b fun c d=>onNil d ((z_EqStrings_6 cf lf a c) (⟨⟨V.u,V.u,a,c,V.u,V.u,V.u,V.u⟩,n8 V.u,n8 V.u,n8 V.u,n8 V.u,n8 V.u,n8 V.u,n8 V.u⟩ : L8) h (fun x e h=>finK (fun e h k=>k e.c0.c0) k x e h))
def z_EqNumbers_0 (cf:CallF) (lf:Nat) (a:V) (b:V):M:=fun c d f=>lenL a fun g=>lenL b fun i=>neqW g i fun j=>condV j (sl0 (V.t false) c (fun m=>f X.r m d)) (f X.n c d)
def z_EqNumbers_1 (cf:CallF) (lf:Nat):M:=fun a b c=>lenL a.c0.c2 fun d=>lssW a.c0.c1 d fun f=>condV f (c X.n a b) (c (X.x 0) a b)
def z_EqNumbers_2 (cf:CallF) (lf:Nat):M:=fun a b c=>resv 0 b fun d f=>iadV 1 a.c0.c2 a.c0.c1 fun g=>ld1 g f fun i=>iadV 1 a.c0.c3 a.c0.c1 fun j=>ld1 j f fun m=>neqW i m fun o=>condV o (sl0 (V.t false) a (fun p=>c X.r p f)) (c X.n a f)
def z_EqNumbers_3 (cf:CallF) (lf:Nat):M:=fun a b c=>addW a.c0.c1 (wz 1) fun d=>sl1 d a fun f=>c X.n f b
def z_EqNumbers_4 (cf:CallF) (lf:Nat):M:=fun a b c=>sl1 (wz 0) a fun d=>blockM 0 (loopM lf (seqM (z_EqNumbers_1 cf lf) (seqM (blockM 1 (z_EqNumbers_2 cf lf)) (z_EqNumbers_3 cf lf)))) d b c
def z_EqNumbers_5 (cf:CallF) (lf:Nat):M:=fun a b c=>sl0 (V.t true) a fun d=>c X.r d b
def z_EqNumbers_6 (cf:CallF) (lf:Nat) (a:V) (b:V):M:=fun c d f=>sl0 (V.t false) c fun g=>seqM (z_EqNumbers_0 cf lf a b) (seqM (z_EqNumbers_4 cf lf) (z_EqNumbers_5 cf lf)) g d f
def T_z_EqNumbers (cf:CallF) (lf:Nat):V→H→KV→Bool:=fun l h k=>onCons l fun a b=>onCons b fun c d=>onNil d ((z_EqNumbers_6 cf lf a c) (⟨⟨V.u,V.u,a,c,V.u,V.u,V.u,V.u⟩,n8 V.u,n8 V.u,n8 V.u,n8 V.u,n8 V.u,n8 V.u,n8 V.u⟩ : L8) h (fun x e h=>finK (fun e h k=>k e.c0.c0) k x e h))
def z_CopyJson_0 (cf:CallF) (lf:Nat) (a:V) (b:H) (c:V) (d:KX) (f:L8):Bool:=lda 5 a b fun g=>resv 1 b fun i j=>newA i false 5 Ty_api_Json (V.x .agg (vl [(wz 0),(wz 0),(vs []),V.x .slnil V.nil V.nil,V.x .slnil V.nil V.nil]) V.nil) j fun m n=>st false 5 m g n fun o p=>fadV 3 a fun q=>ld1 q p fun s=>cf Nf_z_CopyStrings (vl [s]) p fun t u=>fadV 3 m fun w=>st true 1 w t u fun y z=>fadV 4 a fun A=>ld1 A z fun B=>cf Nf_z_CopyNumbers (vl [B]) z fun D E=>fadV 4 m fun F=>st true 1 F D E fun G I=>lda 5 m I fun J=>st false 5 c J I fun N O=>d X.r f O
def z_CopyJson_1 (cf:CallF) (lf:Nat) (a:V):M:=fun b c d=>resv 1 c fun f g=>newA f false 5 Ty_api_Json a g fun i j=>resv 1 j fun m n=>newA m false 5 Ty_api_Json (V.x .agg (vl [(wz 0),(wz 0),(vs []),V.x .slnil V.nil V.nil,V.x .slnil V.nil V.nil]) V.nil) n fun o p=>sl0 o b fun q=>z_CopyJson_0 cf lf i p o d q
def T_z_CopyJson (cf:CallF) (lf:Nat):V→H→KV→Bool:=fun l h k=>onCons l fun a b=>onNil b ((z_CopyJson_1 cf lf a) (⟨n8 V.u,n8 V.u,n8 V.u,n8 V.u,n8 V.u,n8 V.u,n8 V.u,n8 V.u⟩ : L8) h (fun x e h=>finK (fun e h k=>lda 5 e.c0.c0 h k) k x e h))
def j_node_0 (cf:CallF) (lf:Nat) (a:V) (b:V) (c:V):M:=fun d f g=>eqlW a (wz 4) fun i=>condV i (fadV 1 b (fun j=>ld1 j f fun m=>fadV 1 c fun o=>st true 1 o m f fun p q=>g X.n d q)) (eqlW a (wz 5) (fun r=>condV r (fadV 2 b (fun s=>ld1 s f fun t=>fadV 2 c fun u=>st true 1 u t f fun w x=>g X.n d x)) (g X.n d f)))
def j_node_1 (cf:CallF) (lf:Nat) (a:V) (b:V):M:=fun c d f=>fadV 0 a fun g=>ld1 g d fun i=>blockM 0 (j_node_0 cf lf i a b) c d f
def j_node_2 (cf:CallF) (lf:Nat) (a:V) (b:H) (c:L8) (d:KX):Bool:=guardF a b (fun f=>fadV 2 c.c0.c1 fun g=>f g b) fun i j=>guardF a j (fun m=>ld1 i j fun o=>m o j) fun p q=>guardF a q (fun s=>cf Nf_j_Plain (vl [p,(wz 3000)]) q fun u w=>s u w) fun x y=>guardF a y (fun z=>notV x fun A=>z A y) fun B D=>pickV a (V.t true) B fun E=>condV E (sl0 (V.t false) c (fun F=>d X.r F D)) (d X.n c D)
def j_node_3 (cf:CallF) (lf:Nat) (a:V) (b:H) (c:L8) (d:V) (f:KX):Bool:=guardF a b (fun g=>lda 5 c.c0.c2 b fun i=>g i b) fun j m=>guardF a m (fun n=>cf Nf_j_same (vl [d,j]) m fun o p=>n o p) fun q r=>guardF a r (fun s=>notV q fun u=>s u r) fun w x=>pickV a (V.t true) w fun y=>guardF y x (fun z=>fadV 1 c.c0.c1 fun A=>z A x) fun B D=>guardF y D (fun E=>ld1 B D fun F=>E F D) fun G I=>guardF y I (fun J=>cf Nf_j_IsNum (vl [G]) I fun N O=>J N O) fun P Q=>guardF y Q (fun R=>notV P fun S=>R S Q) fun T U=>pickV y (V.t true) T fun W=>j_node_2 cf lf W U c f
def j_node_4 (cf:CallF) (lf:Nat):M:=fun a b c=>fadV 0 a.c0.c1 fun d=>ld1 d b fun f=>lssW f (wz 1) fun g=>guardF g b (fun i=>fadV 0 a.c0.c1 fun j=>i j b) fun m n=>guardF g n (fun o=>ld1 m n fun p=>o p n) fun q r=>guardF g r (fun s=>gtrW q (wz 7) fun u=>s u r) fun w x=>pickV g (V.t true) w fun y=>guardF y x (fun z=>lda 5 a.c0.c1 x fun A=>z A x) fun B D=>j_node_3 cf lf y D a B c
def j_node_5 (cf:CallF) (lf:Nat) (a:V) (b:H) (c:V) (d:L8) (f:KX):Bool:=guardT a b (fun g=>g (V.x (.func Nf_j_node_1) V.nil V.nil) b) fun i j=>guardT a j (fun m=>cf Nf_sli_ContainsFunc___string_string (vl [c,i]) j fun n o=>m n o) fun p q=>guardT a q (fun s=>notV p fun u=>s u q) fun w y=>pickV a w (V.t false) fun z=>guardT z y (fun A=>fadV 3 d.c0.c1 fun B=>A B y) fun D E=>guardT z E (fun F=>ld1 D E fun G=>F G E) fun I J=>guardT z J (fun N=>cf Nf_j_twice (vl [I]) J fun O P=>N O P) fun Q R=>guardT z R (fun S=>notV Q fun T=>S T R) fun U W=>pickV z U (V.t false) fun Y=>sl0 Y d fun Z=>f X.r Z W
def j_node_6 (cf:CallF) (lf:Nat):M:=fun a b c=>fadV 0 a.c0.c1 fun d=>ld1 d b fun f=>eqlW f (wz 7) fun g=>condV g (fadV 3 a.c0.c1 (fun i=>ld1 i b fun j=>lenL j fun m=>fadV 4 a.c0.c1 fun o=>ld1 o b fun p=>lenL p fun q=>eqlW m q fun r=>guardT r b (fun s=>fadV 3 a.c0.c1 fun t=>s t b) fun u w=>guardT r w (fun x=>ld1 u w fun y=>x y w) fun z A=>j_node_5 cf lf r A z a c)) (c X.n a b)
def j_node_7 (cf:CallF) (lf:Nat):M:=fun a b c=>fadV 3 a.c0.c1 fun d=>ld1 d b fun f=>lenL f fun g=>eqlW g (wz 0) fun i=>guardT i b (fun j=>fadV 0 a.c0.c1 fun m=>j m b) fun n o=>guardT i o (fun p=>ld1 n o fun q=>p q o) fun s u=>guardT i u (fun w=>eqlW s (wz 6) fun x=>w x u) fun y z=>guardT i z (fun A=>A y z) fun B D=>guardF B D (fun E=>fadV 4 a.c0.c1 fun F=>E F D) fun G I=>guardF B I (fun J=>ld1 G I fun N=>J N I) fun O P=>guardF B P (fun Q=>lenL O fun R=>Q R P) fun S T=>guardF B T (fun U=>eqlW S (wz 0) fun W=>U W T) fun Y Z=>guardT i Z (fun a0=>pickV B (V.t true) Y fun a1=>a0 a1 Z) fun a2 a3=>pickV i a2 (V.t false) fun a4=>sl0 a4 a fun a5=>c X.r a5 a3
def j_node_8 (cf:CallF) (lf:Nat) (a:V) (b:H) (c:L8) (d:KX):Bool:=fadV 0 a fun f=>ld1 f b fun g=>part 0 true 1 g (vl [(wz 0),(wz 0),(vs []),V.x .slnil V.nil V.nil,V.x .slnil V.nil V.nil]) fun i=>resv 1 b fun j m=>newA j false 5 Ty_api_Json (V.x .agg (vl [(wz 0),(wz 0),(vs []),V.x .slnil V.nil V.nil,V.x .slnil V.nil V.nil]) V.nil) m fun n o=>sl2 n c fun p=>st false 5 n (V.x .agg i V.nil) o fun q r=>seqM (j_node_1 cf lf a n) (seqM (j_node_4 cf lf) (seqM (j_node_6 cf lf) (j_node_7 cf lf))) p r d
def j_node_9 (cf:CallF) (lf:Nat) (a:V):M:=fun b c d=>resv 1 c fun f g=>newA f false 5 Ty_api_Json a g fun i j=>sl1 i b fun m=>sl0 (V.t false) m fun n=>j_node_8 cf lf i j n d
def T_j_node (cf:CallF) (lf:Nat):V→H→KV→Bool:=fun l h k=>onCons l fun a b=>onNil b ((j_node_9 cf lf a) (⟨n8 V.u,n8 V.u,n8 V.u,n8 V.u,n8 V.u,n8 V.u,n8 V.u,n8 V.u⟩ : L8) h (fun x e h=>finK (fun e h k=>k e.c0.c0) k x e h))
def j_spell_0 (cf:CallF) (lf:Nat) (a:V):M:=fun b c d=>eqlW a (wz 6) fun f=>sl0 f b fun g=>condV f (d X.n g c) (eqlW a (wz 7) (fun i=>sl0 i g fun j=>d X.n j c))
def j_spell_1 (cf:CallF) (lf:Nat):M:=fun a b c=>fadV 0 a.c0.c1 fun d=>ld1 d b fun f=>eqlW f (wz 7) fun g=>condV g (sl3 (vs [123,125]) a (fun i=>c X.n i b)) (c X.n a b)
def j_spell_2 (cf:CallF) (lf:Nat) (a:V):M:=fun b c d=>condV a (d X.n b c) (d (X.x 1) b c)
def j_spell_3 (cf:CallF) (lf:Nat) (a:L8):M:=fun b c d=>gtrW a.c0.c4 (wz 0) fun f=>condV f (cf Nf_st_Builder_WriteByte (vl [b.c0.c2,(vy 44)]) c (fun g i=>d X.n b i)) (d X.n b c)
def j_spell_4 (cf:CallF) (lf:Nat):M:=fun a b c=>fadV 0 a.c0.c1 fun d=>ld1 d b fun f=>eqlW f (wz 7) fun g=>condV g (fadV 3 a.c0.c1 (fun i=>ld1 i b fun j=>iadV 1 j a.c0.c7 fun m=>ld1 m b fun o=>cf Nf_j_quoted (vl [a.c0.c2,o]) b fun p q=>cf Nf_st_Builder_WriteByte (vl [a.c0.c2,(vy 58)]) q fun r s=>c X.n a s)) (c X.n a b)
def j_spell_5 (cf:CallF) (lf:Nat):M:=fun a b c=>cf Nf_j_spell (vl [a.c0.c2,a.c1.c0,a.c1.c1]) b fun d f=>c X.n a f
def j_spell_6 (cf:CallF) (lf:Nat):M:=fun a b c=>iadV 1 a.c0.c6 a.c0.c4 fun d=>ld1 d b fun f=>sl7 a.c0.c4 a fun g=>sl9 f g fun i=>seqM (j_spell_3 cf lf a) (seqM (j_spell_4 cf lf) (j_spell_5 cf lf)) i b c
def j_spell_7 (cf:CallF) (lf:Nat):M:=fun a b c=>addW a.c0.c4 (wz 1) fun d=>sl4 d a fun f=>c X.n f b
def j_spell_8 (cf:CallF) (lf:Nat):M:=fun a b c=>lssW a.c0.c4 a.c0.c5 fun d=>seqM (j_spell_2 cf lf d) (seqM (blockM 2 (j_spell_6 cf lf)) (j_spell_7 cf lf)) a b c
def j_spell_9 (cf:CallF) (lf:Nat):M:=fun a b c=>fadV 4 a.c0.c1 fun d=>ld1 d b fun f=>sl6 f a fun g=>lenL f fun i=>sl5 i g fun j=>sl4 (wz 0) j fun m=>blockM 1 (loopM lf (j_spell_8 cf lf)) m b c
def j_spell_10 (cf:CallF) (lf:Nat):M:=fun a b c=>sidxV a.c0.c3 (wz 1) fun d=>cf Nf_st_Builder_WriteByte (vl [a.c0.c2,d]) b fun f g=>c X.n a g
def j_spell_11 (cf:CallF) (lf:Nat):M:=fun a b c=>sidxV a.c0.c3 (wz 0) fun d=>cf Nf_st_Builder_WriteByte (vl [a.c0.c2,d]) b fun f g=>seqM (j_spell_9 cf lf) (j_spell_10 cf lf) a g c
def j_spell_12 (cf:CallF) (lf:Nat) (a:H) (b:L8) (c:KX):Bool:=resv 1 a fun d f=>part 0 true 1 (vs [110,117,108,108]) (vl [(vs []),(vs []),(vs [])]) fun g=>part 1 true 1 (vs [102,97,108,115,101]) g fun i=>part 2 true 1 (vs [116,114,117,101]) i fun j=>bslA d 3 1 Ty_string j f fun m o=>fadV 0 b.c0.c1 fun p=>ld1 p o fun q=>subW q (wz 1) fun r=>iadV 1 m r fun s=>ld1 s o fun t=>cf Nf_st_Builder_WriteString (vl [b.c0.c2,t]) o fun u w=>c X.n b w
def j_spell_13 (cf:CallF) (lf:Nat):M:=fun a b c=>condV a.c0.c0 (sl3 (vs [91,93]) a (fun d=>seqM (j_spell_1 cf lf) (j_spell_11 cf lf) d b c)) (j_spell_12 cf lf b a c)
def j_spell_14 (cf:CallF) (lf:Nat) (a:V) (b:V) (c:V):M:=fun d f g=>eqlW a (wz 4) fun i=>condV i (fadV 1 b (fun j=>ld1 j f fun m=>cf Nf_sc_Itoa (vl [m]) f fun o p=>cf Nf_st_Builder_WriteString (vl [c,o]) p fun q r=>g X.n d r)) (eqlW a (wz 5) (fun s=>condV s (fadV 2 b (fun t=>ld1 t f fun u=>cf Nf_j_quoted (vl [c,u]) f fun w x=>g X.n d x)) (seqM (j_spell_0 cf lf a) (j_spell_13 cf lf) d f g)))
def j_spell_15 (cf:CallF) (lf:Nat) (a:V) (b:V) (c:V):M:=fun d f g=>iadV 5 a b fun i=>lda 5 i f fun j=>resv 1 f fun m n=>newA m false 5 Ty_api_Json (V.x .agg (vl [(wz 0),(wz 0),(vs []),V.x .slnil V.nil V.nil,V.x .slnil V.nil V.nil]) V.nil) n fun o p=>sl1 o d fun q=>st false 5 o j p fun r s=>fadV 0 o fun t=>ld1 t s fun u=>blockM 0 (j_spell_14 cf lf u o c) q s g
def T_j_spell (cf:CallF) (lf:Nat):V→H→KV→Bool:=fun l h k=>onCons l fun a b=>onCons b fun c d=>onCons d fun f g=>onNil g ((j_spell_15 cf lf c f a) (⟨⟨V.u,V.u,a,V.u,V.u,V.u,V.u,V.u⟩,⟨c,V.u,V.u,V.u,V.u,V.u,V.u,V.u⟩,n8 V.u,n8 V.u,n8 V.u,n8 V.u,n8 V.u,n8 V.u⟩ : L8) h (fun x e h=>finK (fun e h k=>k (V.x .tup V.nil V.nil)) k x e h))
def st_Builder_String_0 (cf:CallF) (lf:Nat) (a:V):M:=fun b c d=>sl0 (vs []) b fun f=>resv 0 c fun g i=>nilckV a fun j=>fadV 1 j fun m=>ld1 m i fun n=>nilckV a fun o=>fadV 1 o fun p=>ld1 p i fun q=>sdata n fun s=>lenL q fun t=>usS Ty_uint8 s t i fun u w=>sl0 u f fun x=>d X.r x w
def T_st_Builder_String (cf:CallF) (lf:Nat):V→H→KV→Bool:=fun l h k=>onCons l fun a b=>onNil b ((st_Builder_String_0 cf lf a) (⟨n8 V.u,n8 V.u,n8 V.u,n8 V.u,n8 V.u,n8 V.u,n8 V.u,n8 V.u⟩ : L8) h (fun x e h=>finK (fun e h k=>k e.c0.c0) k x e h))
def j_parser_take_0 (cf:CallF) (lf:Nat) (a:V) (b:V):M:=fun c d f=>cf Nf_j_parser_see (vl [a]) d fun g i=>neqY g b fun j=>condV j (nilckV a (fun m=>fadV 1 m fun o=>ld1 o i fun p=>cf Nf_j_parser_bad (vl [a,(wz 4),p]) i fun q s=>f X.r c s)) (f X.n c i)
def j_parser_take_1 (cf:CallF) (lf:Nat):M:=fun a b c=>nilckV a.c0.c0 fun d=>fadV 1 d fun f=>ld1 f b fun g=>addW g (wz 1) fun i=>nilckV a.c0.c0 fun j=>fadV 1 j fun m=>st true 1 m i b fun o p=>c X.n a p
def T_j_parser_take (cf:CallF) (lf:Nat):V→H→KV→Bool:=fun l h k=>onCons l fun a b=>onCons b fun c d=>onNil d ((seqM (j_parser_take_0 cf lf a c) (j_parser_take_1 cf lf)) (⟨⟨a,V.u,V.u,V.u,V.u,V.u,V.u,V.u⟩,n8 V.u,n8 V.u,n8 V.u,n8 V.u,n8 V.u,n8 V.u,n8 V.u⟩ : L8) h (fun x e h=>finK (fun e h k=>k (V.x .tup V.nil V.nil)) k x e h))
def j_parser_list_0 (cf:CallF) (lf:Nat):M:=fun a b c=>nilckV a.c0.c1 fun d=>fadV 5 d fun f=>ld1 f b fun g=>eqlW g (wz 0) fun i=>guardT i b (fun j=>j a.c0.c0 b) fun m o=>guardT i o (fun p=>lenL m fun q=>p q o) fun r s=>guardT i s (fun u=>gtrW r (wz 0) fun w=>u w s) fun y z=>guardT i z (fun A=>A y z) fun B D=>guardF B D (fun E=>E a.c0.c1 D) fun F G=>guardF B G (fun I=>cf Nf_j_parser_see (vl [F]) G fun J N=>I J N) fun O P=>guardF B P (fun Q=>neqY O (vy 93) fun R=>Q R P) fun S T=>guardT i T (fun U=>pickV B (V.t true) S fun W=>U W T) fun Y Z=>pickV i Y (V.t false) fun a0=>condV a0 (c X.n a Z) (c (X.x 0) a Z)
def j_parser_list_1 (cf:CallF) (lf:Nat):M:=fun a b c=>cf Nf_j_parser_see (vl [a.c0.c1]) b fun d f=>neqY d (vy 44) fun g=>condV g (c (X.x 0) a f) (c X.n a f)
def j_parser_list_2 (cf:CallF) (lf:Nat):M:=fun a b c=>nilckV a.c0.c1 fun d=>fadV 1 d fun f=>ld1 f b fun g=>addW g (wz 1) fun i=>nilckV a.c0.c1 fun j=>fadV 1 j fun m=>st true 1 m i b fun o p=>c X.n a p
def j_parser_list_3 (cf:CallF) (lf:Nat):M:=fun a b c=>cf Nf_j_parser_value (vl [a.c0.c1]) b fun d f=>resv 1 f fun g i=>part 0 true 1 d (vl [(wz 0)]) fun j=>bslA g 1 1 Ty_int j i fun m n=>app 1 Ty_int a.c0.c0 m n fun o p=>sl0 o a fun q=>cf Nf_j_parser_blanks (vl [q.c0.c1]) p fun r s=>seqM (j_parser_list_1 cf lf) (j_parser_list_2 cf lf) q s c
def j_parser_list_4 (cf:CallF) (lf:Nat):M:=fun a b c=>cf Nf_j_parser_take (vl [a.c0.c1,(vy 93)]) b fun d f=>sl0 a.c0.c0 a fun g=>c X.r g f
def j_parser_list_5 (cf:CallF) (lf:Nat) (a:V):M:=fun b c d=>sl0 (V.x .slnil V.nil V.nil) b fun f=>cf Nf_j_parser_blanks (vl [a]) c fun g i=>seqM (blockM 0 (loopM lf (seqM (j_parser_list_0 cf lf) (blockM 1 (j_parser_list_3 cf lf))))) (j_parser_list_4 cf lf) f i d
def T_j_parser_list (cf:CallF) (lf:Nat):V→H→KV→Bool:=fun l h k=>onCons l fun a b=>onNil b ((j_parser_list_5 cf lf a) (⟨⟨V.u,a,V.u,V.u,V.u,V.u,V.u,V.u⟩,n8 V.u,n8 V.u,n8 V.u,n8 V.u,n8 V.u,n8 V.u,n8 V.u⟩ : L8) h (fun x e h=>finK (fun e h k=>k e.c0.c0) k x e h))
def j_parser_pairs_0 (cf:CallF) (lf:Nat):M:=fun a b c=>nilckV a.c0.c2 fun d=>fadV 5 d fun f=>ld1 f b fun g=>eqlW g (wz 0) fun i=>guardT i b (fun j=>j a.c0.c1 b) fun m o=>guardT i o (fun p=>lenL m fun q=>p q o) fun r s=>guardT i s (fun u=>gtrW r (wz 0) fun w=>u w s) fun y z=>guardT i z (fun A=>A y z) fun B D=>guardF B D (fun E=>E a.c0.c2 D) fun F G=>guardF B G (fun I=>cf Nf_j_parser_see (vl [F]) G fun J N=>I J N) fun O P=>guardF B P (fun Q=>neqY O (vy 125) fun R=>Q R P) fun S T=>guardT i T (fun U=>pickV B (V.t true) S fun W=>U W T) fun Y Z=>pickV i Y (V.t false) fun a0=>condV a0 (c X.n a Z) (c (X.x 0) a Z)
def j_parser_pairs_1 (cf:CallF) (lf:Nat):M:=fun a b c=>cf Nf_j_parser_see (vl [a.c0.c2]) b fun d f=>neqY d (vy 44) fun g=>condV g (c (X.x 0) a f) (c X.n a f)
def j_parser_pairs_2 (cf:CallF) (lf:Nat):M:=fun a b c=>nilckV a.c0.c2 fun d=>fadV 1 d fun f=>ld1 f b fun g=>addW g (wz 1) fun i=>nilckV a.c0.c2 fun j=>fadV 1 j fun m=>st true 1 m i b fun o p=>c X.n a p
def j_parser_pairs_3 (cf:CallF) (lf:Nat):M:=fun a b c=>cf Nf_j_parser_name (vl [a.c0.c2,a.c0.c0]) b fun d f=>resv 1 f fun g i=>part 0 true 1 d (vl [(vs [])]) fun j=>bslA g 1 1 Ty_string j i fun m n=>app 1 Ty_string a.c0.c0 m n fun o p=>sl0 o a fun q=>cf Nf_j_parser_value (vl [q.c0.c2]) p fun r s=>resv 1 s fun t u=>part 0 true 1 r (vl [(wz 0)]) fun w=>bslA t 1 1 Ty_int w u fun x y=>app 1 Ty_int q.c0.c1 x y fun z A=>sl1 z q fun B=>cf Nf_j_parser_blanks (vl [B.c0.c2]) A fun D E=>seqM (j_parser_pairs_1 cf lf) (j_parser_pairs_2 cf lf) B E c
def j_parser_pairs_4 (cf:CallF) (lf:Nat):M:=fun a b c=>cf Nf_j_parser_take (vl [a.c0.c2,(vy 125)]) b fun d f=>sl0 a.c0.c0 a fun g=>sl1 a.c0.c1 g fun i=>c X.r i f
def j_parser_pairs_5 (cf:CallF) (lf:Nat) (a:V):M:=fun b c d=>sl0 (V.x .slnil V.nil V.nil) b fun f=>sl1 (V.x .slnil V.nil V.nil) f fun g=>cf Nf_j_parser_blanks (vl [a]) c fun i j=>seqM (blockM 0 (loopM lf (seqM (j_parser_pairs_0 cf lf) (blockM 1 (j_parser_pairs_3 cf lf))))) (j_parser_pairs_4 cf lf) g j d
def T_j_parser_pairs (cf:CallF) (lf:Nat):V→H→KV→Bool:=fun l h k=>onCons l fun a b=>onNil b ((j_parser_pairs_5 cf lf a) (⟨⟨V.u,V.u,a,V.u,V.u,V.u,V.u,V.u⟩,n8 V.u,n8 V.u,n8 V.u,n8 V.u,n8 V.u,n8 V.u,n8 V.u⟩ : L8) h (fun x e h=>finK (fun e h k=>k (V.x .tup (vl [e.c0.c0,e.c0.c1]) V.nil)) k x e h))
def j_String_0 (cf:CallF) (lf:Nat):M:=fun a b c=>lenS a.c0.c4 fun d=>lssW a.c0.c3 d fun f=>condV f (c X.n a b) (c (X.x 0) a b)
def j_String_1 (cf:CallF) (lf:Nat) (a:V) (b:H) (c:L8) (d:V) (f:V) (g:KX):Bool:=guardT a b (fun i=>i c.c0.c4 b) fun j m=>guardT a m (fun o=>o d m) fun p q=>guardT a q (fun s=>sidxV j p fun u=>s u q) fun w x=>guardT a x (fun y=>neqY w (vy 92) fun z=>y z x) fun A B=>guardF f B (fun D=>pickV a A (V.t false) fun E=>D E B) fun F G=>pickV f (V.t true) F fun I=>condV I (sl0 (vs []) c (fun J=>sl1 (wz 0) J fun N=>sl2 (V.t false) N fun O=>g X.r O G)) (g X.n c G)
def j_String_2 (cf:CallF) (lf:Nat) (a:V):M:=fun b c d=>lenS b.c0.c4 fun f=>geqV a f fun g=>guardF g c (fun i=>i b.c0.c4 c) fun j m=>guardF g m (fun n=>n a m) fun o p=>guardF g p (fun q=>sidxV j o fun r=>q r p) fun s t=>guardF g t (fun u=>neqY s (vy 34) fun w=>u w t) fun x y=>guardF g y (fun z=>z x y) fun A B=>j_String_1 cf lf A B b a g d
def j_String_3 (cf:CallF) (lf:Nat):M:=fun a b c=>sidxV a.c0.c4 a.c0.c3 fun d=>sl6 d a fun f=>c X.n f b
def j_String_4 (cf:CallF) (lf:Nat) (a:V) (b:H) (c:L8) (d:KX):Bool:=lssY a (vy 32) fun f=>guardF f b (fun g=>g a b) fun i j=>guardF f j (fun m=>gtrY i (vy 126) fun o=>m o j) fun p q=>pickV f (V.t true) p fun s=>condV s (sl0 (vs []) c (fun u=>sl1 (wz 0) u fun w=>sl2 (V.t false) w fun x=>d X.r x q)) (eqlY a (vy 92) (fun y=>condV y (addW c.c0.c3 (wz 1) (fun z=>sl3 z c fun A=>seqM (j_String_2 cf lf z) (j_String_3 cf lf) A q d)) (d X.n c q)))
def j_String_5 (cf:CallF) (lf:Nat) (a:V):M:=fun b c d=>eqlY a (vy 34) fun f=>condV f (cf Nf_st_Builder_String (vl [b.c0.c5]) c (fun g i=>addW b.c0.c3 (wz 1) fun j=>sl0 g b fun m=>sl1 j m fun n=>sl2 (V.t true) n fun o=>d X.r o i)) (j_String_4 cf lf a c b d)
def j_String_6 (cf:CallF) (lf:Nat):M:=fun a b c=>cf Nf_st_Builder_WriteByte (vl [a.c0.c5,a.c0.c6]) b fun d f=>c X.n a f
def j_String_7 (cf:CallF) (lf:Nat):M:=fun a b c=>sidxV a.c0.c4 a.c0.c3 fun d=>sl6 d a fun f=>seqM (blockM 2 (j_String_5 cf lf d)) (j_String_6 cf lf) f b c
def j_String_8 (cf:CallF) (lf:Nat):M:=fun a b c=>addW a.c0.c3 (wz 1) fun d=>sl3 d a fun f=>c X.n f b
def j_String_9 (cf:CallF) (lf:Nat):M:=fun a b c=>sl3 (wz 1) a fun d=>blockM 0 (loopM lf (seqM (j_String_0 cf lf) (seqM (blockM 1 (j_String_7 cf lf)) (j_String_8 cf lf)))) d b c
def j_String_10 (cf:CallF) (lf:Nat):M:=fun a b c=>sl0 (vs []) a fun d=>sl1 (wz 0) d fun f=>sl2 (V.t false) f fun g=>c X.r g b
def j_String_11 (cf:CallF) (lf:Nat):M:=fun a b c=>sl0 (vs []) a fun d=>sl1 (wz 0) d fun f=>sl2 (V.t false) f fun g=>resv 1 b fun i j=>newA i false 2 Ty_strings_Builder (V.x .agg (vl [V.x .pnil V.nil V.nil,V.x .slnil V.nil V.nil]) V.nil) j fun m n=>sl5 m g fun o=>seqM (j_String_9 cf lf) (j_String_10 cf lf) o n c
def T_j_String (cf:CallF) (lf:Nat):V→H→KV→Bool:=fun l h k=>onCons l fun a b=>onNil b ((j_String_11 cf lf) (⟨⟨V.u,V.u,V.u,V.u,a,V.u,V.u,V.u⟩,n8 V.u,n8 V.u,n8 V.u,n8 V.u,n8 V.u,n8 V.u,n8 V.u⟩ : L8) h (fun x e h=>finK (fun e h k=>k (V.x .tup (vl [e.c0.c0,e.c0.c1,e.c0.c2]) V.nil)) k x e h))
def j_Number_0 (cf:CallF) (lf:Nat) (a:V):M:=fun b c d=>cf Nf_st_HasPrefix (vl [a,(vs [45])]) c fun f g=>condV f (d (X.x 1) b g) (d X.n b g)
def j_Number_1 (cf:CallF) (lf:Nat):M:=fun a b c=>sl4 (wz (-1)) a fun d=>sl1 (wz 1) d fun f=>c X.n f b
def j_Number_2 (cf:CallF) (lf:Nat):M:=fun a b c=>lenS a.c0.c3 fun d=>lssW a.c0.c1 d fun f=>guardT f b (fun g=>g a.c0.c3 b) fun i j=>guardT f j (fun m=>m a.c0.c1 j) fun o p=>guardT f p (fun q=>sidxV i o fun r=>q r p) fun s u=>guardT f u (fun w=>cf Nf_j_digit (vl [s]) u fun y z=>w y z) fun A B=>pickV f A (V.t false) fun D=>condV D (c X.n a B) (c (X.x 3) a B)
def j_Number_3 (cf:CallF) (lf:Nat):M:=fun a b c=>leqW a.c0.c0 (wz 1073741824) fun d=>condV d (mulV a.c0.c0 (wz 10) (fun f=>sidxV a.c0.c3 a.c0.c1 fun g=>subY g (vy 48) fun i=>toW i fun j=>addW f j fun m=>sl0 m a fun o=>c X.n o b)) (c X.n a b)
def j_Number_4 (cf:CallF) (lf:Nat):M:=fun a b c=>addW a.c0.c1 (wz 1) fun d=>sl1 d a fun f=>c X.n f b
def j_Number_5 (cf:CallF) (lf:Nat) (a:L8):M:=fun b c d=>lssW b.c0.c4 (wz 0) fun f=>condV f (subW a.c0.c1 (wz 1) (fun g=>sl5 g b fun i=>d X.n i c)) (d X.n b c)
def j_Number_6 (cf:CallF) (lf:Nat) (a:V) (b:H) (c:V) (d:L8) (f:KX):Bool:=guardF a b (fun g=>eqlY c (vy 48) fun i=>g i b) fun j m=>guardF a m (fun o=>o j m) fun p q=>guardT p q (fun s=>s d.c0.c5 q) fun u w=>guardT p w (fun x=>gtrW u (wz 1) fun y=>x y w) fun z A=>guardT p A (fun B=>B z A) fun D E=>guardF D E (fun F=>F d.c0.c4 E) fun G I=>guardF D I (fun J=>lssW G (wz 0) fun N=>J N I) fun O P=>guardT p P (fun Q=>pickV D (V.t true) O fun R=>Q R P) fun S T=>guardF a T (fun U=>pickV p S (V.t false) fun W=>U W T) fun Y Z=>pickV a (V.t true) Y fun a0=>condV a0 (sl0 (wz 0) d (fun a1=>sl1 d.c0.c1 a1 fun a2=>sl2 (V.t false) a2 fun a3=>f X.r a3 Z)) (f X.n d Z)
def j_Number_7 (cf:CallF) (lf:Nat) (a:V):M:=fun b c d=>eqlW b.c0.c5 (wz 0) fun f=>guardF f c (fun g=>g b.c0.c0 c) fun i j=>guardF f j (fun m=>gtrW i (wz 1073741824) fun n=>m n j) fun o p=>pickV f (V.t true) o fun q=>guardF q p (fun r=>r b.c0.c3 p) fun s u=>guardF q u (fun w=>w a u) fun x y=>guardF q y (fun z=>sidxV s x fun A=>z A y) fun B D=>j_Number_6 cf lf q D B b d
def j_Number_8 (cf:CallF) (lf:Nat):M:=fun a b c=>mulV a.c0.c4 a.c0.c0 fun d=>sl0 d a fun f=>sl1 a.c0.c1 f fun g=>sl2 (V.t true) g fun i=>c X.r i b
def j_Number_9 (cf:CallF) (lf:Nat):M:=fun a b c=>subW a.c0.c1 a.c0.c5 fun d=>seqM (j_Number_7 cf lf d) (j_Number_8 cf lf) a b c
def j_Number_10 (cf:CallF) (lf:Nat):M:=fun a b c=>sl5 a.c0.c1 a fun d=>seqM (j_Number_5 cf lf a) (j_Number_9 cf lf) d b c
def j_Number_11 (cf:CallF) (lf:Nat) (a:V):M:=fun b c d=>sl0 (wz 0) b fun f=>sl1 (wz 0) f fun g=>sl2 (V.t false) g fun i=>sl4 (wz 1) i fun j=>seqM (blockM 0 (seqM (blockM 2 (seqM (blockM 1 (seqM (j_Number_0 cf lf a) (fun m n o=>o (X.x 2) m n))) (j_Number_1 cf lf))) (seqM (blockM 3 (loopM lf (seqM (j_Number_2 cf lf) (blockM 4 (seqM (j_Number_3 cf lf) (j_Number_4 cf lf)))))) (fun p q r=>r (X.x 0) p q)))) (j_Number_10 cf lf) j c d
def T_j_Number (cf:CallF) (lf:Nat):V→H→KV→Bool:=fun l h k=>onCons l fun a b=>onNil b ((j_Number_11 cf lf a) (⟨⟨V.u,V.u,V.u,a,V.u,V.u,V.u,V.u⟩,n8 V.u,n8 V.u,n8 V.u,n8 V.u,n8 V.u,n8 V.u,n8 V.u⟩ : L8) h (fun x e h=>finK (fun e h k=>k (V.x .tup (vl [e.c0.c0,e.c0.c1,e.c0.c2]) V.nil)) k x e h))
def sl_IndexByte_0 (cf:CallF) (lf:Nat) (a:V) (b:V):M:=fun c d f=>sl0 (wz 0) c fun g=>cf Nf_ba_IndexByteString (vl [a,b]) d fun i j=>sl0 i g fun m=>f X.r m j
def T_sl_IndexByte (cf:CallF) (lf:Nat):V→H→KV→Bool:=fun l h k=>onCons l fun a b=>onCons b fun c d=>onNil d ((sl_IndexByte_0 cf lf a c) (⟨n8 V.u,n8 V.u,n8 V.u,n8 V.u,n8 V.u,n8 V.u,n8 V.u,n8 V.u⟩ : L8) h (fun x e h=>finK (fun e h k=>k e.c0.c0) k x e h))
def r_reader_takes_0 (cf:CallF) (lf:Nat) (a:V):M:=fun b c d=>nilckV a fun f=>fadV 4 f fun g=>ld1 g c fun i=>neqW i (wz 0) fun j=>condV j (d X.r b c) (d X.n b c)
def r_reader_takes_1 (cf:CallF) (lf:Nat) (a:V) (b:H) (c:L8) (d:KX):Bool:=guardF a b (fun f=>f c.c0.c0 b) fun g i=>guardF a i (fun j=>nilckV g fun m=>j m i) fun o p=>guardF a p (fun q=>fadV 0 o fun s=>q s p) fun u w=>guardF a w (fun x=>ld1 u w fun y=>x y w) fun z A=>guardF a A (fun B=>B c.c0.c0 A) fun D E=>guardF a E (fun F=>nilckV D fun G=>F G E) fun I J=>guardF a J (fun N=>fadV 1 I fun O=>N O J) fun P Q=>guardF a Q (fun R=>ld1 P Q fun S=>R S Q) fun T U=>guardF a U (fun W=>sidxV z T fun Y=>W Y U) fun Z a0=>guardF a a0 (fun a1=>a1 c.c0.c1 a0) fun a2 a3=>guardF a a3 (fun a4=>neqY Z a2 fun a5=>a4 a5 a3) fun a6 a7=>pickV a (V.t true) a6 fun a8=>condV a8 (nilckV c.c0.c0 (fun a9=>fadV 1 a9 fun b0=>ld1 b0 a7 fun b1=>cf Nf_r_reader_fails (vl [c.c0.c0,(wz 4),b1]) a7 fun b2 b3=>d X.r c b3)) (d X.n c a7)
def r_reader_takes_2 (cf:CallF) (lf:Nat):M:=fun a b c=>resv 0 b fun d f=>nilckV a.c0.c0 fun g=>fadV 1 g fun i=>ld1 i f fun j=>nilckV a.c0.c0 fun m=>fadV 0 m fun n=>ld1 n f fun o=>lenS o fun p=>geqV j p fun q=>r_reader_takes_1 cf lf q f a c
def r_reader_takes_3 (cf:CallF) (lf:Nat):M:=fun a b c=>nilckV a.c0.c0 fun d=>fadV 1 d fun f=>ld1 f b fun g=>addW g (wz 1) fun i=>nilckV a.c0.c0 fun j=>fadV 1 j fun m=>st true 1 m i b fun o p=>c X.n a p
def T_r_reader_takes (cf:CallF) (lf:Nat):V→H→KV→Bool:=fun l h k=>onCons l fun a b=>onCons b fun c d=>onNil d ((seqM (r_reader_takes_0 cf lf a) (seqM (r_reader_takes_2 cf lf) (r_reader_takes_3 cf lf))) (⟨⟨a,c,V.u,V.u,V.u,V.u,V.u,V.u⟩,n8 V.u,n8 V.u,n8 V.u,n8 V.u,n8 V.u,n8 V.u,n8 V.u⟩ : L8) h (fun x e h=>finK (fun e h k=>k (V.x .tup V.nil V.nil)) k x e h))
def z_Has_0 (cf:CallF) (lf:Nat):M:=fun a b c=>lenL a.c0.c2 fun d=>lssW a.c0.c1 d fun f=>condV f (c X.n a b) (c (X.x 0) a b)
def z_Has_1 (cf:CallF) (lf:Nat):M:=fun a b c=>iadV 1 a.c0.c2 a.c0.c1 fun d=>ld1 d b fun f=>eqlS f a.c0.c3 fun g=>condV g (sl0 (V.t true) a (fun i=>c X.r i b)) (c X.n a b)
def z_Has_2 (cf:CallF) (lf:Nat):M:=fun a b c=>addW a.c0.c1 (wz 1) fun d=>sl1 d a fun f=>c X.n f b
def z_Has_3 (cf:CallF) (lf:Nat):M:=fun a b c=>sl1 (wz 0) a fun d=>blockM 0 (loopM lf (seqM (z_Has_0 cf lf) (seqM (blockM 1 (z_Has_1 cf lf)) (z_Has_2 cf lf)))) d b c
def z_Has_4 (cf:CallF) (lf:Nat):M:=fun a b c=>sl0 (V.t false) a fun d=>c X.r d b
def z_Has_5 (cf:CallF) (lf:Nat):M:=fun a b c=>sl0 (V.t false) a fun d=>seqM (z_Has_3 cf lf) (z_Has_4 cf lf) d b c
def T_z_Has (cf:CallF) (lf:Nat):V→H→KV→Bool:=fun l h k=>onCons l fun a b=>onCons b fun c d=>onNil d ((z_Has_5 cf lf) (⟨⟨V.u,V.u,a,c,V.u,V.u,V.u,V.u⟩,n8 V.u,n8 V.u,n8 V.u,n8 V.u,n8 V.u,n8 V.u,n8 V.u⟩ : L8) h (fun x e h=>finK (fun e h k=>k e.c0.c0) k x e h))
def z_CopyStrings_0 (cf:CallF) (lf:Nat):M:=fun a b c=>lenL a.c0.c2 fun d=>lssW a.c0.c1 d fun f=>condV f (c X.n a b) (c (X.x 0) a b)
def z_CopyStrings_1 (cf:CallF) (lf:Nat):M:=fun a b c=>iadV 1 a.c0.c2 a.c0.c1 fun d=>ld1 d b fun f=>resv 1 b fun g i=>part 0 true 1 f (vl [(vs [])]) fun j=>bslA g 1 1 Ty_string j i fun m o=>app 1 Ty_string a.c0.c3 m o fun p q=>sl3 p a fun r=>c X.n r q
def z_CopyStrings_2 (cf:CallF) (lf:Nat):M:=fun a b c=>addW a.c0.c1 (wz 1) fun d=>sl1 d a fun f=>c X.n f b
def z_CopyStrings_3 (cf:CallF) (lf:Nat):M:=fun a b c=>sl1 (wz 0) a fun d=>blockM 0 (loopM lf (seqM (z_CopyStrings_0 cf lf) (seqM (blockM 1 (z_CopyStrings_1 cf lf)) (z_CopyStrings_2 cf lf)))) d b c
def z_CopyStrings_4 (cf:CallF) (lf:Nat):M:=fun a b c=>sl0 a.c0.c3 a fun d=>c X.r d b
def z_CopyStrings_5 (cf:CallF) (lf:Nat):M:=fun a b c=>sl0 (V.x .slnil V.nil V.nil) a fun d=>sl3 (V.x .slnil V.nil V.nil) d fun f=>seqM (z_CopyStrings_3 cf lf) (z_CopyStrings_4 cf lf) f b c
def T_z_CopyStrings (cf:CallF) (lf:Nat):V→H→KV→Bool:=fun l h k=>onCons l fun a b=>onNil b ((z_CopyStrings_5 cf lf) (⟨⟨V.u,V.u,a,V.u,V.u,V.u,V.u,V.u⟩,n8 V.u,n8 V.u,n8 V.u,n8 V.u,n8 V.u,n8 V.u,n8 V.u⟩ : L8) h (fun x e h=>finK (fun e h k=>k e.c0.c0) k x e h))
def z_CopyNumbers_0 (cf:CallF) (lf:Nat):M:=fun a b c=>lenL a.c0.c2 fun d=>lssW a.c0.c1 d fun f=>condV f (c X.n a b) (c (X.x 0) a b)
def z_CopyNumbers_1 (cf:CallF) (lf:Nat):M:=fun a b c=>iadV 1 a.c0.c2 a.c0.c1 fun d=>ld1 d b fun f=>resv 1 b fun g i=>part 0 true 1 f (vl [(wz 0)]) fun j=>bslA g 1 1 Ty_int j i fun m o=>app 1 Ty_int a.c0.c3 m o fun p q=>sl3 p a fun r=>c X.n r q
def z_CopyNumbers_2 (cf:CallF) (lf:Nat):M:=fun a b c=>addW a.c0.c1 (wz 1) fun d=>sl1 d a fun f=>c X.n f b
def z_CopyNumbers_3 (cf:CallF) (lf:Nat):M:=fun a b c=>sl1 (wz 0) a fun d=>blockM 0 (loopM lf (seqM (z_CopyNumbers_0 cf lf) (seqM (blockM 1 (z_CopyNumbers_1 cf lf)) (z_CopyNumbers_2 cf lf)))) d b c
def z_CopyNumbers_4 (cf:CallF) (lf:Nat):M:=fun a b c=>sl0 a.c0.c3 a fun d=>c X.r d b
def z_CopyNumbers_5 (cf:CallF) (lf:Nat):M:=fun a b c=>sl0 (V.x .slnil V.nil V.nil) a fun d=>sl3 (V.x .slnil V.nil V.nil) d fun f=>seqM (z_CopyNumbers_3 cf lf) (z_CopyNumbers_4 cf lf) f b c
def T_z_CopyNumbers (cf:CallF) (lf:Nat):V→H→KV→Bool:=fun l h k=>onCons l fun a b=>onNil b ((z_CopyNumbers_5 cf lf) (⟨⟨V.u,V.u,a,V.u,V.u,V.u,V.u,V.u⟩,n8 V.u,n8 V.u,n8 V.u,n8 V.u,n8 V.u,n8 V.u,n8 V.u⟩ : L8) h (fun x e h=>finK (fun e h k=>k e.c0.c0) k x e h))
def j_same_0 (cf:CallF) (lf:Nat) (a:V) (b:H) (c:V) (d:V) (f:V) (g:V) (i:L8) (j:KX):Bool:=guardT a b (fun m=>eqlW c d fun n=>m n b) fun o p=>pickV a o (V.t false) fun q=>guardT q p (fun s=>fadV 2 f fun u=>s u p) fun w x=>guardT q x (fun y=>ld1 w x fun z=>y z x) fun A B=>guardT q B (fun D=>fadV 2 g fun E=>D E B) fun F G=>guardT q G (fun I=>ld1 F G fun J=>I J G) fun N O=>guardT q O (fun P=>eqlS A N fun Q=>P Q O) fun R S=>pickV q R (V.t false) fun T=>sl0 T i fun U=>j X.r U S
def j_same_1 (cf:CallF) (lf:Nat) (a:V) (b:V):M:=fun c d f=>resv 1 d fun g i=>newA g false 5 Ty_api_Json a i fun j m=>resv 1 m fun n o=>newA n false 5 Ty_api_Json b o fun p q=>sl0 (V.t false) c fun r=>fadV 0 j fun s=>ld1 s q fun u=>fadV 0 p fun w=>ld1 w q fun x=>eqlW u x fun y=>guardT y q (fun z=>fadV 1 j fun A=>z A q) fun B D=>guardT y D (fun E=>ld1 B D fun F=>E F D) fun G I=>guardT y I (fun J=>fadV 1 p fun N=>J N I) fun O P=>guardT y P (fun Q=>ld1 O P fun R=>Q R P) fun S T=>j_same_0 cf lf y T G S j p r f
def T_j_same (cf:CallF) (lf:Nat):V→H→KV→Bool:=fun l h k=>onCons l fun a b=>onCons b fun c d=>onNil d ((j_same_1 cf lf a c) (⟨n8 V.u,n8 V.u,n8 V.u,n8 V.u,n8 V.u,n8 V.u,n8 V.u,n8 V.u⟩ : L8) h (fun x e h=>finK (fun e h k=>k e.c0.c0) k x e h))
def j_IsNum_0 (cf:CallF) (lf:Nat) (a:V):M:=fun b c d=>sl0 (V.t false) b fun f=>geqV a (wz (-1073741824)) fun g=>guardT g c (fun i=>i a c) fun j m=>guardT g m (fun n=>leqW j (wz 1073741824) fun o=>n o m) fun p q=>pickV g p (V.t false) fun s=>sl0 s f fun u=>d X.r u q
def T_j_IsNum (cf:CallF) (lf:Nat):V→H→KV→Bool:=fun l h k=>onCons l fun a b=>onNil b ((j_IsNum_0 cf lf a) (⟨n8 V.u,n8 V.u,n8 V.u,n8 V.u,n8 V.u,n8 V.u,n8 V.u,n8 V.u⟩ : L8) h (fun x e h=>finK (fun e h k=>k e.c0.c0) k x e h))
def j_Plain_0 (cf:CallF) (lf:Nat) (a:V) (b:V):M:=fun c d f=>sl0 (V.t false) c fun g=>lenS a fun i=>leqW i b fun j=>guardT j d (fun m=>m a d) fun n o=>guardT j o (fun p=>p (V.x (.func Nf_j_Plain_1) V.nil V.nil) o) fun q s=>guardT j s (fun u=>cf Nf_st_ContainsFunc (vl [n,q]) s fun w y=>u w y) fun z A=>guardT j A (fun B=>notV z fun D=>B D A) fun E F=>pickV j E (V.t false) fun G=>sl0 G g fun I=>f X.r I F
def T_j_Plain (cf:CallF) (lf:Nat):V→H→KV→Bool:=fun l h k=>onCons l fun a b=>onCons b fun c d=>onNil d ((j_Plain_0 cf lf a c) (⟨n8 V.u,n8 V.u,n8 V.u,n8 V.u,n8 V.u,n8 V.u,n8 V.u,n8 V.u⟩ : L8) h (fun x e h=>finK (fun e h k=>k e.c0.c0) k x e h))
def j_node_1_0 (cf:CallF) (lf:Nat) (a:V):M:=fun b c d=>sl0 (V.t false) b fun f=>cf Nf_j_Plain (vl [a,(wz 3000)]) c fun g i=>notV g fun j=>sl0 j f fun m=>d X.r m i
def T_j_node_1 (cf:CallF) (lf:Nat):V→H→KV→Bool:=fun l h k=>onCons l fun a b=>onNil b ((j_node_1_0 cf lf a) (⟨n8 V.u,n8 V.u,n8 V.u,n8 V.u,n8 V.u,n8 V.u,n8 V.u,n8 V.u⟩ : L8) h (fun x e h=>finK (fun e h k=>k e.c0.c0) k x e h))
def sli_ContainsFunc___string_string_0 (cf:CallF) (lf:Nat) (a:V) (b:V):M:=fun c d f=>sl0 (V.t false) c fun g=>cf Nf_sli_IndexFunc___string_string (vl [a,b]) d fun i j=>geqV i (wz 0) fun m=>sl0 m g fun n=>f X.r n j
def T_sli_ContainsFunc___string_string (cf:CallF) (lf:Nat):V→H→KV→Bool:=fun l h k=>onCons l fun a b=>onCons b fun c d=>onNil d ((sli_ContainsFunc___string_string_0 cf lf a c) (⟨n8 V.u,n8 V.u,n8 V.u,n8 V.u,n8 V.u,n8 V.u,n8 V.u,n8 V.u⟩ : L8) h (fun x e h=>finK (fun e h k=>k e.c0.c0) k x e h))
def j_twice_0 (cf:CallF) (lf:Nat) (a:V):M:=fun b c d=>condV a (d X.n b c) (d (X.x 0) b c)
def j_twice_1 (cf:CallF) (lf:Nat):M:=fun a b c=>iadV 1 a.c0.c3 a.c0.c1 fun d=>ld1 d b fun f=>ssli 1 none (some a.c0.c1) a.c0.c4 fun g=>cf Nf_sli_Contains___string_string (vl [g,f]) b fun i j=>condV i (sl0 (V.t true) a (fun m=>c X.r m j)) (c X.n a j)
def j_twice_2 (cf:CallF) (lf:Nat):M:=fun a b c=>addW a.c0.c1 (wz 1) fun d=>sl1 d a fun f=>c X.n f b
def j_twice_3 (cf:CallF) (lf:Nat):M:=fun a b c=>lssW a.c0.c1 a.c0.c2 fun d=>seqM (j_twice_0 cf lf d) (seqM (blockM 1 (j_twice_1 cf lf)) (j_twice_2 cf lf)) a b c
def j_twice_4 (cf:CallF) (lf:Nat) (a:V):M:=fun b c d=>sl3 a b fun f=>lenL a fun g=>sl2 g f fun i=>sl1 (wz 0) i fun j=>blockM 0 (loopM lf (j_twice_3 cf lf)) j c d
def j_twice_5 (cf:CallF) (lf:Nat):M:=fun a b c=>sl0 (V.t false) a fun d=>c X.r d b
def j_twice_6 (cf:CallF) (lf:Nat) (a:V):M:=fun b c d=>sl0 (V.t false) b fun f=>seqM (j_twice_4 cf lf a) (j_twice_5 cf lf) f c d
def T_j_twice (cf:CallF) (lf:Nat):V→H→KV→Bool:=fun l h k=>onCons l fun a b=>onNil b ((j_twice_6 cf lf a) (⟨⟨V.u,V.u,V.u,V.u,a,V.u,V.u,V.u⟩,n8 V.u,n8 V.u,n8 V.u,n8 V.u,n8 V.u,n8 V.u,n8 V.u⟩ : L8) h (fun x e h=>finK (fun e h k=>k e.c0.c0) k x e h))
def st_Builder_WriteString_0 (cf:CallF) (lf:Nat) (a:V) (b:V):M:=fun c d f=>sl0 (wz 0) c fun g=>sl1 (V.x .inil V.nil V.nil) g fun i=>cf Nf_st_Builder_copyCheck (vl [a]) d fun j m=>nilckV a fun n=>fadV 1 n fun o=>ld1 o m fun p=>app 1 Ty_uint8 p b m fun q s=>nilckV a fun t=>fadV 1 t fun u=>st true 1 u q s fun w y=>lenS b fun z=>sl0 z i fun A=>sl1 (V.x .inil V.nil V.nil) A fun B=>f X.r B y
def T_st_Builder_WriteString (cf:CallF) (lf:Nat):V→H→KV→Bool:=fun l h k=>onCons l fun a b=>onCons b fun c d=>onNil d ((st_Builder_WriteString_0 cf lf a c) (⟨n8 V.u,n8 V.u,n8 V.u,n8 V.u,n8 V.u,n8 V.u,n8 V.u,n8 V.u⟩ : L8) h (fun x e h=>finK (fun e h k=>k (V.x .tup (vl [e.c0.c0,e.c0.c1]) V.nil)) k x e h))
def j_quoted_0 (cf:CallF) (lf:Nat) (a:V):M:=fun b c d=>condV a (d X.n b c) (d (X.x 0) b c)
def j_quoted_1 (cf:CallF) (lf:Nat) (a:L8):M:=fun b c d=>sidxV b.c0.c2 a.c0.c0 fun f=>eqlY f (vy 34) fun g=>guardF g c (fun i=>i b.c0.c2 c) fun j m=>guardF g m (fun o=>o a.c0.c0 m) fun p q=>guardF g q (fun r=>sidxV j p fun s=>r s q) fun u w=>guardF g w (fun x=>eqlY u (vy 92) fun y=>x y w) fun z A=>pickV g (V.t true) z fun B=>condV B (cf Nf_st_Builder_WriteByte (vl [b.c0.c3,(vy 92)]) A (fun D E=>d X.n b E)) (d X.n b A)
def j_quoted_2 (cf:CallF) (lf:Nat):M:=fun a b c=>sidxV a.c0.c2 a.c0.c4 fun d=>cf Nf_st_Builder_WriteByte (vl [a.c0.c3,d]) b fun f g=>c X.n a g
def j_quoted_3 (cf:CallF) (lf:Nat):M:=fun a b c=>sl4 a.c0.c0 a fun d=>seqM (j_quoted_1 cf lf a) (j_quoted_2 cf lf) d b c
def j_quoted_4 (cf:CallF) (lf:Nat):M:=fun a b c=>addW a.c0.c0 (wz 1) fun d=>sl0 d a fun f=>c X.n f b
def j_quoted_5 (cf:CallF) (lf:Nat):M:=fun a b c=>lssW a.c0.c0 a.c0.c1 fun d=>seqM (j_quoted_0 cf lf d) (seqM (blockM 1 (j_quoted_3 cf lf)) (j_quoted_4 cf lf)) a b c
def j_quoted_6 (cf:CallF) (lf:Nat) (a:V):M:=fun b c d=>lenS a fun f=>sl1 f b fun g=>sl0 (wz 0) g fun i=>blockM 0 (loopM lf (j_quoted_5 cf lf)) i c d
def j_quoted_7 (cf:CallF) (lf:Nat):M:=fun a b c=>cf Nf_st_Builder_WriteByte (vl [a.c0.c3,(vy 34)]) b fun d f=>c X.n a f
def j_quoted_8 (cf:CallF) (lf:Nat) (a:V) (b:V):M:=fun c d f=>cf Nf_st_Builder_WriteByte (vl [a,(vy 34)]) d fun g i=>seqM (j_quoted_6 cf lf b) (j_quoted_7 cf lf) c i f
def T_j_quoted (cf:CallF) (lf:Nat):V→H→KV→Bool:=fun l h k=>onCons l fun a b=>onCons b fun c d=>onNil d ((j_quoted_8 cf lf a c) (⟨⟨V.u,V.u,c,a,V.u,V.u,V.u,V.u⟩,n8 V.u,n8 V.u,n8 V.u,n8 V.u,n8 V.u,n8 V.u,n8 V.u⟩ : L8) h (fun x e h=>finK (fun e h k=>k (V.x .tup V.nil V.nil)) k x e h))
def st_Builder_WriteByte_0 (cf:CallF) (lf:Nat) (a:V) (b:V):M:=fun c d f=>sl0 (V.x .inil V.nil V.nil) c fun g=>cf Nf_st_Builder_copyCheck (vl [a]) d fun i j=>nilckV a fun m=>fadV 1 m fun n=>ld1 n j fun o=>resv 1 j fun p q=>part 0 true 1 b (vl [(vy 0)]) fun s=>bslA p 1 1 Ty_uint8 s q fun t u=>app 1 Ty_uint8 o t u fun w y=>nilckV a fun z=>fadV 1 z fun A=>st true 1 A w y fun B D=>sl0 (V.x .inil V.nil V.nil) g fun E=>f X.r E D
def T_st_Builder_WriteByte (cf:CallF) (lf:Nat):V→H→KV→Bool:=fun l h k=>onCons l fun a b=>onCons b fun c d=>onNil d ((st_Builder_WriteByte_0 cf lf a c) (⟨n8 V.u,n8 V.u,n8 V.u,n8 V.u,n8 V.u,n8 V.u,n8 V.u,n8 V.u⟩ : L8) h (fun x e h=>finK (fun e h k=>k e.c0.c0) k x e h))
def j_parser_name_0 (cf:CallF) (lf:Nat) (a:V) (b:V):M:=fun c d f=>cf Nf_j_parser_see (vl [a]) d fun g i=>neqY g (vy 34) fun j=>condV j (cf Nf_j_parser_bad (vl [a,(wz 4),b]) i (fun m o=>sl0 (vs []) c fun p=>f X.r p o)) (f X.n c i)
def j_parser_name_1 (cf:CallF) (lf:Nat) (a:V):M:=fun b c d=>cf Nf_sli_Contains___string_string (vl [b.c0.c2,a]) c fun f g=>condV f (cf Nf_j_parser_bad (vl [b.c0.c1,(wz 4),b.c0.c3]) g (fun i j=>d X.n b j)) (d X.n b g)
def j_parser_name_2 (cf:CallF) (lf:Nat):M:=fun a b c=>cf Nf_j_parser_blanks (vl [a.c0.c1]) b fun d f=>cf Nf_j_parser_take (vl [a.c0.c1,(vy 58)]) f fun g i=>sl0 a.c0.c4 a fun j=>c X.r j i
def j_parser_name_3 (cf:CallF) (lf:Nat):M:=fun a b c=>cf Nf_j_parser_text (vl [a.c0.c1]) b fun d f=>sl4 d a fun g=>seqM (j_parser_name_1 cf lf d) (j_parser_name_2 cf lf) g f c
def j_parser_name_4 (cf:CallF) (lf:Nat) (a:V):M:=fun b c d=>sl0 (vs []) b fun f=>cf Nf_j_parser_blanks (vl [a]) c fun g i=>nilckV a fun j=>fadV 1 j fun m=>ld1 m i fun n=>sl3 n f fun o=>seqM (j_parser_name_0 cf lf a n) (j_parser_name_3 cf lf) o i d
def T_j_parser_name (cf:CallF) (lf:Nat):V→H→KV→Bool:=fun l h k=>onCons l fun a b=>onCons b fun c d=>onNil d ((j_parser_name_4 cf lf a) (⟨⟨V.u,a,c,V.u,V.u,V.u,V.u,V.u⟩,n8 V.u,n8 V.u,n8 V.u,n8 V.u,n8 V.u,n8 V.u,n8 V.u⟩ : L8) h (fun x e h=>finK (fun e h k=>k e.c0.c0) k x e h))
def st_HasPrefix_0 (cf:CallF) (lf:Nat) (a:V) (b:V):M:=fun c d f=>sl0 (V.t false) c fun g=>cf Nf_sl_HasPrefix (vl [a,b]) d fun i j=>sl0 i g fun m=>f X.r m j
def T_st_HasPrefix (cf:CallF) (lf:Nat):V→H→KV→Bool:=fun l h k=>onCons l fun a b=>onCons b fun c d=>onNil d ((st_HasPrefix_0 cf lf a c) (⟨n8 V.u,n8 V.u,n8 V.u,n8 V.u,n8 V.u,n8 V.u,n8 V.u,n8 V.u⟩ : L8) h (fun x e h=>finK (fun e h k=>k e.c0.c0) k x e h))
def j_Plain_1_0 (cf:CallF) (lf:Nat) (a:V):M:=fun b c d=>sl0 (V.t false) b fun f=>lssV a (mkI .i32 32) fun i=>guardF i c (fun j=>j a c) fun m n=>guardF i n (fun o=>gtrV m (mkI .i32 126) fun p=>o p n) fun q s=>pickV i (V.t true) q fun u=>sl0 u f fun w=>d X.r w s
def T_j_Plain_1 (cf:CallF) (lf:Nat):V→H→KV→Bool:=fun l h k=>onCons l fun a b=>onNil b ((j_Plain_1_0 cf lf a) (⟨n8 V.u,n8 V.u,n8 V.u,n8 V.u,n8 V.u,n8 V.u,n8 V.u,n8 V.u⟩ : L8) h (fun x e h=>finK (fun e h k=>k e.c0.c0) k x e h))
def st_ContainsFunc_0 (cf:CallF) (lf:Nat) (a:V) (b:V):M:=fun c d f=>sl0 (V.t false) c fun g=>cf Nf_st_IndexFunc (vl [a,b]) d fun i j=>geqV i (wz 0) fun m=>sl0 m g fun n=>f X.r n j
def T_st_ContainsFunc (cf:CallF) (lf:Nat):V→H→KV→Bool:=fun l h k=>onCons l fun a b=>onCons b fun c d=>onNil d ((st_ContainsFunc_0 cf lf a c) (⟨n8 V.u,n8 V.u,n8 V.u,n8 V.u,n8 V.u,n8 V.u,n8 V.u,n8 V.u⟩ : L8) h (fun x e h=>finK (fun e h k=>k e.c0.c0) k x e h))
def sli_IndexFunc___string_string_0 (cf:CallF) (lf:Nat) (a:V):M:=fun b c d=>condV a (d X.n b c) (d (X.x 0) b c)
def sli_IndexFunc___string_string_1 (cf:CallF) (lf:Nat):M:=fun a b c=>iadV 1 a.c0.c4 a.c0.c1 fun d=>ld1 d b fun f=>callV cf a.c0.c3 (vl [f]) b fun g i=>condV g (sl0 a.c0.c1 a (fun j=>c X.r j i)) (c X.n a i)
def sli_IndexFunc___string_string_2 (cf:CallF) (lf:Nat):M:=fun a b c=>addW a.c0.c1 (wz 1) fun d=>sl1 d a fun f=>c X.n f b
def sli_IndexFunc___string_string_3 (cf:CallF) (lf:Nat):M:=fun a b c=>lssW a.c0.c1 a.c0.c2 fun d=>seqM (sli_IndexFunc___string_string_0 cf lf d) (seqM (blockM 1 (sli_IndexFunc___string_string_1 cf lf)) (sli_IndexFunc___string_string_2 cf lf)) a b c
def sli_IndexFunc___string_string_4 (cf:CallF) (lf:Nat) (a:V):M:=fun b c d=>lenL a fun f=>sl2 f b fun g=>sl1 (wz 0) g fun i=>blockM 0 (loopM lf (sli_IndexFunc___string_string_3 cf lf)) i c d
def sli_IndexFunc___string_string_5 (cf:CallF) (lf:Nat):M:=fun a b c=>sl0 (wz (-1)) a fun d=>c X.r d b
def sli_IndexFunc___string_string_6 (cf:CallF) (lf:Nat) (a:V):M:=fun b c d=>sl0 (wz 0) b fun f=>seqM (sli_IndexFunc___string_string_4 cf lf a) (sli_IndexFunc___string_string_5 cf lf) f c d
def T_sli_IndexFunc___string_string (cf:CallF) (lf:Nat):V→H→KV→Bool:=fun l h k=>onCons l fun a b=>onCons b fun c d=>onNil d ((sli_IndexFunc___string_string_6 cf lf a) (⟨⟨V.u,V.u,V.u,c,a,V.u,V.u,V.u⟩,n8 V.u,n8 V.u,n8 V.u,n8 V.u,n8 V.u,n8 V.u,n8 V.u⟩ : L8) h (fun x e h=>finK (fun e h k=>k e.c0.c0) k x e h))
def sli_Contains___string_string_0 (cf:CallF) (lf:Nat) (a:V) (b:V):M:=fun c d f=>sl0 (V.t false) c fun g=>cf Nf_sli_Index___string_string (vl [a,b]) d fun i j=>geqV i (wz 0) fun m=>sl0 m g fun n=>f X.r n j
def T_sli_Contains___string_string (cf:CallF) (lf:Nat):V→H→KV→Bool:=fun l h k=>onCons l fun a b=>onCons b fun c d=>onNil d ((sli_Contains___string_string_0 cf lf a c) (⟨n8 V.u,n8 V.u,n8 V.u,n8 V.u,n8 V.u,n8 V.u,n8 V.u,n8 V.u⟩ : L8) h (fun x e h=>finK (fun e h k=>k e.c0.c0) k x e h))
def st_Builder_copyCheck_0 (cf:CallF) (lf:Nat) (a:V):M:=fun b c d=>nilckV a fun f=>fadV 0 f fun g=>ld1 g c fun i=>eqPt idB i (V.x .pnil V.nil V.nil) fun j=>condV j (cvU a c (fun m=>cf Nf_abi_NoEscape (vl [m]) c fun o p=>cvP Ty_strings_Builder 2 o p fun q=>nilckV a fun r=>fadV 0 r fun s=>st true 1 s q p fun t u=>d X.n b u)) (nilckV a (fun w=>fadV 0 w fun y=>ld1 y c fun z=>eqPt nots z a fun A=>condV A false (d X.n b c)))
def T_st_Builder_copyCheck (cf:CallF) (lf:Nat):V→H→KV→Bool:=fun l h k=>onCons l fun a b=>onNil b ((st_Builder_copyCheck_0 cf lf a) (⟨n8 V.u,n8 V.u,n8 V.u,n8 V.u,n8 V.u,n8 V.u,n8 V.u,n8 V.u⟩ : L8) h (fun x e h=>finK (fun e h k=>k (V.x .tup V.nil V.nil)) k x e h))
def sl_HasPrefix_0 (cf:CallF) (lf:Nat) (a:V) (b:V) (c:H) (d:L8) (f:KX):Bool:=lenS a fun g=>lenS b fun i=>geqV g i fun j=>guardT j c (fun m=>m a c) fun n o=>guardT j o (fun p=>p b o) fun q s=>guardT j s (fun u=>lenS q fun w=>u w s) fun x y=>guardT j y (fun z=>sstr none (some x) n fun A=>z A y) fun B D=>guardT j D (fun E=>E b D) fun F G=>guardT j G (fun I=>eqlS B F fun J=>I J G) fun N O=>pickV j N (V.t false) fun P=>sl0 P d fun Q=>f X.r Q O
def sl_HasPrefix_1 (cf:CallF) (lf:Nat) (a:V) (b:V):M:=fun c d f=>sl0 (V.t false) c fun g=>sl_HasPrefix_0 cf lf a b d g f
def T_sl_HasPrefix (cf:CallF) (lf:Nat):V→H→KV→Bool:=fun l h k=>onCons l fun a b=>onCons b fun c d=>onNil d ((sl_HasPrefix_1 cf lf a c) (⟨n8 V.u,n8 V.u,n8 V.u,n8 V.u,n8 V.u,n8 V.u,n8 V.u,n8 V.u⟩ : L8) h (fun x e h=>finK (fun e h k=>k e.c0.c0) k x e h))
def st_IndexFunc_0 (cf:CallF) (lf:Nat) (a:V) (b:V):M:=fun c d f=>sl0 (wz 0) c fun g=>cf Nf_st_indexFunc (vl [a,b,V.t true]) d fun i j=>sl0 i g fun m=>f X.r m j
def T_st_IndexFunc (cf:CallF) (lf:Nat):V→H→KV→Bool:=fun l h k=>onCons l fun a b=>onCons b fun c d=>onNil d ((st_IndexFunc_0 cf lf a c) (⟨n8 V.u,n8 V.u,n8 V.u,n8 V.u,n8 V.u,n8 V.u,n8 V.u,n8 V.u⟩ : L8) h (fun x e h=>finK (fun e h k=>k e.c0.c0) k x e h))
def sli_Index___string_string_0 (cf:CallF) (lf:Nat) (a:V):M:=fun b c d=>condV a (d X.n b c) (d (X.x 0) b c)
def sli_Index___string_string_1 (cf:CallF) (lf:Nat):M:=fun a b c=>iadV 1 a.c0.c4 a.c0.c1 fun d=>ld1 d b fun f=>eqlS a.c0.c3 f fun g=>condV g (sl0 a.c0.c1 a (fun i=>c X.r i b)) (c X.n a b)
def sli_Index___string_string_2 (cf:CallF) (lf:Nat):M:=fun a b c=>addW a.c0.c1 (wz 1) fun d=>sl1 d a fun f=>c X.n f b
def sli_Index___string_string_3 (cf:CallF) (lf:Nat):M:=fun a b c=>lssW a.c0.c1 a.c0.c2 fun d=>seqM (sli_Index___string_string_0 cf lf d) (seqM (blockM 1 (sli_Index___string_string_1 cf lf)) (sli_Index___string_string_2 cf lf)) a b c
def sli_Index___string_string_4 (cf:CallF) (lf:Nat) (a:V):M:=fun b c d=>lenL a fun f=>sl2 f b fun g=>sl1 (wz 0) g fun i=>blockM 0 (loopM lf (sli_Index___string_string_3 cf lf)) i c d
def sli_Index___string_string_5 (cf:CallF) (lf:Nat):M:=fun a b c=>sl0 (wz (-1)) a fun d=>c X.r d b
def sli_Index___string_string_6 (cf:CallF) (lf:Nat) (a:V):M:=fun b c d=>sl0 (wz 0) b fun f=>seqM (sli_Index___string_string_4 cf lf a) (sli_Index___string_string_5 cf lf) f c d
def T_sli_Index___string_string (cf:CallF) (lf:Nat):V→H→KV→Bool:=fun l h k=>onCons l fun a b=>onCons b fun c d=>onNil d ((sli_Index___string_string_6 cf lf a) (⟨⟨V.u,V.u,V.u,c,a,V.u,V.u,V.u⟩,n8 V.u,n8 V.u,n8 V.u,n8 V.u,n8 V.u,n8 V.u,n8 V.u⟩ : L8) h (fun x e h=>finK (fun e h k=>k e.c0.c0) k x e h))
def st_indexFunc_0 (cf:CallF) (lf:Nat) (a:V):M:=fun b c d=>condV a (d X.n b c) (d (X.x 0) b c)
def st_indexFunc_1 (cf:CallF) (lf:Nat):M:=fun a b c=>ext 1 a.c0.c2 fun d=>ext 2 a.c0.c2 fun f=>callV cf a.c0.c3 (vl [f]) b fun g i=>eqT idB g a.c0.c4 fun j=>condV j (sl0 d a (fun m=>c X.r m i)) (c X.n a i)
def st_indexFunc_2 (cf:CallF) (lf:Nat):M:=fun a b c=>itN a.c0.c1 b fun d f=>sl2 d a fun g=>ext 0 d fun i=>seqM (st_indexFunc_0 cf lf i) (blockM 1 (st_indexFunc_1 cf lf)) g f c
def st_indexFunc_3 (cf:CallF) (lf:Nat) (a:V):M:=fun b c d=>resv 1 c fun f g=>itA f a g fun i j=>sl1 i b fun m=>blockM 0 (loopM lf (st_indexFunc_2 cf lf)) m j d
def st_indexFunc_4 (cf:CallF) (lf:Nat):M:=fun a b c=>sl0 (wz (-1)) a fun d=>c X.r d b
def st_indexFunc_5 (cf:CallF) (lf:Nat) (a:V):M:=fun b c d=>sl0 (wz 0) b fun f=>seqM (st_indexFunc_3 cf lf a) (st_indexFunc_4 cf lf) f c d
def T_st_indexFunc (cf:CallF) (lf:Nat):V→H→KV→Bool:=fun l h k=>onCons l fun a b=>onCons b fun c d=>onCons d fun f g=>onNil g ((st_indexFunc_5 cf lf a) (⟨⟨V.u,V.u,V.u,c,f,V.u,V.u,V.u⟩,n8 V.u,n8 V.u,n8 V.u,n8 V.u,n8 V.u,n8 V.u,n8 V.u⟩ : L8) h (fun x e h=>finK (fun e h k=>k e.c0.c0) k x e h))
end
end Go.Bvm.JN
set_option linter.unusedVariables false
set_option maxRecDepth 100000
namespace Go.Bvm.JN
noncomputable section
def big:Nat:=3000000
def tbl (cf:CallF) (f:Nat):V→H→KV→Bool:=bs (Nat.ble 49 f) (bs (Nat.ble 69 f) (bs (Nat.ble 80 f) (bs (Nat.ble 87 f) (bs (Nat.ble 89 f) (bs (Nat.ble 90 f) (bs (Nat.ble 92 f) (bs (Nat.beq f 92) (T_st_indexFunc cf big) noF) (bs (Nat.beq f 90) extSame noF)) (bs (Nat.beq f 89) (T_sli_Index___string_string cf big) noF)) (bs (Nat.ble 88 f) (bs (Nat.beq f 88) (T_st_IndexFunc cf big) noF) (bs (Nat.beq f 87) (T_sl_HasPrefix cf big) noF))) (bs (Nat.ble 82 f) (bs (Nat.ble 83 f) (bs (Nat.ble 85 f) (bs (Nat.beq f 85) (T_st_Builder_copyCheck cf big) noF) (bs (Nat.beq f 83) (T_sli_Contains___string_string cf big) noF)) (bs (Nat.beq f 82) (T_sli_IndexFunc___string_string cf big) noF)) (bs (Nat.ble 81 f) (bs (Nat.beq f 81) (T_st_ContainsFunc cf big) noF) (bs (Nat.beq f 80) (T_j_Plain_1 cf big) noF)))) (bs (Nat.ble 75 f) (bs (Nat.ble 77 f) (bs (Nat.ble 78 f) (bs (Nat.ble 79 f) (bs (Nat.beq f 79) extIdx noF) (bs (Nat.beq f 78) (T_st_HasPrefix cf big) noF)) (bs (Nat.beq f 77) (T_j_parser_name cf big) noF)) (bs (Nat.ble 76 f) (bs (Nat.beq f 76) (T_st_Builder_WriteByte cf big) noF) (bs (Nat.beq f 75) (T_j_quoted cf big) noF))) (bs (Nat.ble 71 f) (bs (Nat.ble 73 f) (bs (Nat.ble 74 f) (bs (Nat.beq f 74) (extTen 20 1) noF) (bs (Nat.beq f 73) (T_st_Builder_WriteString cf big) noF)) (bs (Nat.beq f 71) (T_j_twice cf big) noF)) (bs (Nat.ble 70 f) (bs (Nat.beq f 70) (T_sli_ContainsFunc___string_string cf big) noF) (bs (Nat.beq f 69) (T_j_node_1 cf big) noF))))) (bs (Nat.ble 59 f) (bs (Nat.ble 64 f) (bs (Nat.ble 66 f) (bs (Nat.ble 67 f) (bs (Nat.ble 68 f) (bs (Nat.beq f 68) (T_j_Plain cf big) noF) (bs (Nat.beq f 67) (T_j_IsNum cf big) noF)) (bs (Nat.beq f 66) (T_j_same cf big) noF)) (bs (Nat.ble 65 f) (bs (Nat.beq f 65) (T_z_CopyNumbers cf big) noF) (bs (Nat.beq f 64) (T_z_CopyStrings cf big) noF))) (bs (Nat.ble 61 f) (bs (Nat.ble 62 f) (bs (Nat.ble 63 f) (bs (Nat.beq f 63) (T_z_Has cf big) noF) (bs (Nat.beq f 62) (T_r_reader_takes cf big) noF)) (bs (Nat.beq f 61) (T_sl_IndexByte cf big) noF)) (bs (Nat.ble 60 f) (bs (Nat.beq f 60) (T_j_Number cf big) noF) (bs (Nat.beq f 59) (T_j_String cf big) noF)))) (bs (Nat.ble 54 f) (bs (Nat.ble 56 f) (bs (Nat.ble 57 f) (bs (Nat.ble 58 f) (bs (Nat.beq f 58) (T_j_parser_pairs cf big) noF) (bs (Nat.beq f 57) (T_j_parser_list cf big) noF)) (bs (Nat.beq f 56) (T_j_parser_take cf big) noF)) (bs (Nat.ble 55 f) (bs (Nat.beq f 55) (T_st_Builder_String cf big) noF) (bs (Nat.beq f 54) (T_j_spell cf big) noF))) (bs (Nat.ble 51 f) (bs (Nat.ble 52 f) (bs (Nat.ble 53 f) (bs (Nat.beq f 53) extSh noF) (bs (Nat.beq f 52) (T_j_node cf big) noF)) (bs (Nat.beq f 51) (T_z_CopyJson cf big) noF)) (bs (Nat.ble 50 f) (bs (Nat.beq f 50) (T_z_EqNumbers cf big) noF) (bs (Nat.beq f 49) (T_z_EqStrings cf big) noF)))))) (bs (Nat.ble 28 f) (bs (Nat.ble 39 f) (bs (Nat.ble 44 f) (bs (Nat.ble 46 f) (bs (Nat.ble 47 f) (bs (Nat.ble 48 f) (bs (Nat.beq f 48) (T_r_Int cf big) noF) (bs (Nat.beq f 47) (T_r_reader_many cf big) noF)) (bs (Nat.beq f 46) (T_r_reader_add cf big) noF)) (bs (Nat.ble 45 f) (bs (Nat.beq f 45) (T_r_reader_text cf big) noF) (bs (Nat.beq f 44) (T_r_reader_word cf big) noF))) (bs (Nat.ble 41 f) (bs (Nat.ble 42 f) (bs (Nat.ble 43 f) (bs (Nat.beq f 43) (T_r_reader_see cf big) noF) (bs (Nat.beq f 42) (T_j_parser_add cf big) noF)) (bs (Nat.beq f 41) (T_j_parser_literal cf big) noF)) (bs (Nat.ble 40 f) (bs (Nat.beq f 40) (T_st_IndexByte cf big) noF) (bs (Nat.beq f 39) (T_j_parser_number cf big) noF)))) (bs (Nat.ble 34 f) (bs (Nat.ble 36 f) (bs (Nat.ble 37 f) (bs (Nat.ble 38 f) (bs (Nat.beq f 38) (T_j_digit cf big) noF) (bs (Nat.beq f 37) (T_j_parser_text cf big) noF)) (bs (Nat.beq f 36) (T_j_parser_begin cf big) noF)) (bs (Nat.ble 35 f) (bs (Nat.beq f 35) (T_j_parser_nested cf big) noF) (bs (Nat.beq f 34) (T_j_parser_see cf big) noF))) (bs (Nat.ble 31 f) (bs (Nat.ble 32 f) (bs (Nat.ble 33 f) (bs (Nat.beq f 33) (T_l0_Texts cf big) noF) (bs (Nat.beq f 32) (T_j_Text cf big) noF)) (bs (Nat.beq f 31) (T_j_May cf big) noF)) (bs (Nat.ble 30 f) (bs (Nat.beq f 30) (T_z_CopyJsons cf big) noF) (bs (Nat.beq f 28) (T_z_EqJson cf big) noF))))) (bs (Nat.ble 17 f) (bs (Nat.ble 23 f) (bs (Nat.ble 25 f) (bs (Nat.ble 26 f) (bs (Nat.ble 27 f) (bs (Nat.beq f 27) (T_r_reader_fails cf big) noF) (bs (Nat.beq f 26) (T_r_reader_value cf big) noF)) (bs (Nat.beq f 25) (T_r_reader_blanks cf big) noF)) (bs (Nat.ble 24 f) (bs (Nat.beq f 24) (T_j_parser_bad cf big) noF) (bs (Nat.beq f 23) (T_j_parser_blanks cf big) noF))) (bs (Nat.ble 20 f) (bs (Nat.ble 21 f) (bs (Nat.ble 22 f) (bs (Nat.beq f 22) (T_j_parser_value cf big) noF) (bs (Nat.beq f 21) (T_l0_JsonsWeight cf big) noF)) (bs (Nat.beq f 20) (T_l1_cellsOf cf big) noF)) (bs (Nat.ble 18 f) (bs (Nat.beq f 18) (T_l1_slashes cf big) noF) (bs (Nat.beq f 17) (T_j_Write cf big) noF)))) (bs (Nat.ble 11 f) (bs (Nat.ble 13 f) (bs (Nat.ble 15 f) (bs (Nat.ble 16 f) (bs (Nat.beq f 16) (T_l1_values cf big) noF) (bs (Nat.beq f 15) (extWk Pg) noF)) (bs (Nat.beq f 13) (T_z_EqJsons cf big) noF)) (bs (Nat.ble 12 f) (bs (Nat.beq f 12) (T_l1_num cf big) noF) (bs (Nat.beq f 11) (T_r_Read cf big) noF))) (bs (Nat.ble 9 f) (bs (Nat.ble 10 f) (bs (Nat.beq f 10) (T_j_Read cf big) noF) (bs (Nat.beq f 9) (T_l0_Within cf big) noF)) (bs (Nat.ble 8 f) (bs (Nat.beq f 8) (T_l1_Heavy cf big) noF) (bs (Nat.beq f 4) (T_l1_JsonBack cf big) noF))))))
end
theorem tbl_l1_JsonBack (cf:CallF):tbl cf Nf_l1_JsonBack=T_l1_JsonBack cf big:=rfl
theorem tbl_l1_Heavy (cf:CallF):tbl cf Nf_l1_Heavy=T_l1_Heavy cf big:=rfl
theorem tbl_l0_Within (cf:CallF):tbl cf Nf_l0_Within=T_l0_Within cf big:=rfl
theorem tbl_j_Read (cf:CallF):tbl cf Nf_j_Read=T_j_Read cf big:=rfl
theorem tbl_r_Read (cf:CallF):tbl cf Nf_r_Read=T_r_Read cf big:=rfl
theorem tbl_l1_num (cf:CallF):tbl cf Nf_l1_num=T_l1_num cf big:=rfl
theorem tbl_z_EqJsons (cf:CallF):tbl cf Nf_z_EqJsons=T_z_EqJsons cf big:=rfl
theorem tbl_l1_values (cf:CallF):tbl cf Nf_l1_values=T_l1_values cf big:=rfl
theorem tbl_j_Write (cf:CallF):tbl cf Nf_j_Write=T_j_Write cf big:=rfl
theorem tbl_l1_slashes (cf:CallF):tbl cf Nf_l1_slashes=T_l1_slashes cf big:=rfl
theorem tbl_l1_cellsOf (cf:CallF):tbl cf Nf_l1_cellsOf=T_l1_cellsOf cf big:=rfl
theorem tbl_l0_JsonsWeight (cf:CallF):tbl cf Nf_l0_JsonsWeight=T_l0_JsonsWeight cf big:=rfl
theorem tbl_j_parser_value (cf:CallF):tbl cf Nf_j_parser_value=T_j_parser_value cf big:=rfl
theorem tbl_j_parser_blanks (cf:CallF):tbl cf Nf_j_parser_blanks=T_j_parser_blanks cf big:=rfl
theorem tbl_j_parser_bad (cf:CallF):tbl cf Nf_j_parser_bad=T_j_parser_bad cf big:=rfl
theorem tbl_r_reader_blanks (cf:CallF):tbl cf Nf_r_reader_blanks=T_r_reader_blanks cf big:=rfl
theorem tbl_r_reader_value (cf:CallF):tbl cf Nf_r_reader_value=T_r_reader_value cf big:=rfl
theorem tbl_r_reader_fails (cf:CallF):tbl cf Nf_r_reader_fails=T_r_reader_fails cf big:=rfl
theorem tbl_z_EqJson (cf:CallF):tbl cf Nf_z_EqJson=T_z_EqJson cf big:=rfl
theorem tbl_z_CopyJsons (cf:CallF):tbl cf Nf_z_CopyJsons=T_z_CopyJsons cf big:=rfl
theorem tbl_j_May (cf:CallF):tbl cf Nf_j_May=T_j_May cf big:=rfl
theorem tbl_j_Text (cf:CallF):tbl cf Nf_j_Text=T_j_Text cf big:=rfl
theorem tbl_l0_Texts (cf:CallF):tbl cf Nf_l0_Texts=T_l0_Texts cf big:=rfl
theorem tbl_j_parser_see (cf:CallF):tbl cf Nf_j_parser_see=T_j_parser_see cf big:=rfl
theorem tbl_j_parser_nested (cf:CallF):tbl cf Nf_j_parser_nested=T_j_parser_nested cf big:=rfl
theorem tbl_j_parser_begin (cf:CallF):tbl cf Nf_j_parser_begin=T_j_parser_begin cf big:=rfl
theorem tbl_j_parser_text (cf:CallF):tbl cf Nf_j_parser_text=T_j_parser_text cf big:=rfl
theorem tbl_j_digit (cf:CallF):tbl cf Nf_j_digit=T_j_digit cf big:=rfl
theorem tbl_j_parser_number (cf:CallF):tbl cf Nf_j_parser_number=T_j_parser_number cf big:=rfl
theorem tbl_st_IndexByte (cf:CallF):tbl cf Nf_st_IndexByte=T_st_IndexByte cf big:=rfl
theorem tbl_j_parser_literal (cf:CallF):tbl cf Nf_j_parser_literal=T_j_parser_literal cf big:=rfl
theorem tbl_j_parser_add (cf:CallF):tbl cf Nf_j_parser_add=T_j_parser_add cf big:=rfl
theorem tbl_r_reader_see (cf:CallF):tbl cf Nf_r_reader_see=T_r_reader_see cf big:=rfl
theorem tbl_r_reader_word (cf:CallF):tbl cf Nf_r_reader_word=T_r_reader_word cf big:=rfl
theorem tbl_r_reader_text (cf:CallF):tbl cf Nf_r_reader_text=T_r_reader_text cf big:=rfl
theorem tbl_r_reader_add (cf:CallF):tbl cf Nf_r_reader_add=T_r_reader_add cf big:=rfl
theorem tbl_r_reader_many (cf:CallF):tbl cf Nf_r_reader_many=T_r_reader_many cf big:=rfl
theorem tbl_r_Int (cf:CallF):tbl cf Nf_r_Int=T_r_Int cf big:=rfl
theorem tbl_z_EqStrings (cf:CallF):tbl cf Nf_z_EqStrings=T_z_EqStrings cf big:=rfl
theorem tbl_z_EqNumbers (cf:CallF):tbl cf Nf_z_EqNumbers=T_z_EqNumbers cf big:=rfl
theorem tbl_z_CopyJson (cf:CallF):tbl cf Nf_z_CopyJson=T_z_CopyJson cf big:=rfl
theorem tbl_j_node (cf:CallF):tbl cf Nf_j_node=T_j_node cf big:=rfl
theorem tbl_j_spell (cf:CallF):tbl cf Nf_j_spell=T_j_spell cf big:=rfl
theorem tbl_st_Builder_String (cf:CallF):tbl cf Nf_st_Builder_String=T_st_Builder_String cf big:=rfl
theorem tbl_j_parser_take (cf:CallF):tbl cf Nf_j_parser_take=T_j_parser_take cf big:=rfl
theorem tbl_j_parser_list (cf:CallF):tbl cf Nf_j_parser_list=T_j_parser_list cf big:=rfl
theorem tbl_j_parser_pairs (cf:CallF):tbl cf Nf_j_parser_pairs=T_j_parser_pairs cf big:=rfl
theorem tbl_j_String (cf:CallF):tbl cf Nf_j_String=T_j_String cf big:=rfl
theorem tbl_j_Number (cf:CallF):tbl cf Nf_j_Number=T_j_Number cf big:=rfl
theorem tbl_sl_IndexByte (cf:CallF):tbl cf Nf_sl_IndexByte=T_sl_IndexByte cf big:=rfl
theorem tbl_r_reader_takes (cf:CallF):tbl cf Nf_r_reader_takes=T_r_reader_takes cf big:=rfl
theorem tbl_z_Has (cf:CallF):tbl cf Nf_z_Has=T_z_Has cf big:=rfl
theorem tbl_z_CopyStrings (cf:CallF):tbl cf Nf_z_CopyStrings=T_z_CopyStrings cf big:=rfl
theorem tbl_z_CopyNumbers (cf:CallF):tbl cf Nf_z_CopyNumbers=T_z_CopyNumbers cf big:=rfl
theorem tbl_j_same (cf:CallF):tbl cf Nf_j_same=T_j_same cf big:=rfl
theorem tbl_j_IsNum (cf:CallF):tbl cf Nf_j_IsNum=T_j_IsNum cf big:=rfl
theorem tbl_j_Plain (cf:CallF):tbl cf Nf_j_Plain=T_j_Plain cf big:=rfl
theorem tbl_j_node_1 (cf:CallF):tbl cf Nf_j_node_1=T_j_node_1 cf big:=rfl
theorem tbl_sli_ContainsFunc___string_string (cf:CallF):tbl cf Nf_sli_ContainsFunc___string_string=T_sli_ContainsFunc___string_string cf big:=rfl
theorem tbl_j_twice (cf:CallF):tbl cf Nf_j_twice=T_j_twice cf big:=rfl
theorem tbl_st_Builder_WriteString (cf:CallF):tbl cf Nf_st_Builder_WriteString=T_st_Builder_WriteString cf big:=rfl
theorem tbl_j_quoted (cf:CallF):tbl cf Nf_j_quoted=T_j_quoted cf big:=rfl
theorem tbl_st_Builder_WriteByte (cf:CallF):tbl cf Nf_st_Builder_WriteByte=T_st_Builder_WriteByte cf big:=rfl
theorem tbl_j_parser_name (cf:CallF):tbl cf Nf_j_parser_name=T_j_parser_name cf big:=rfl
theorem tbl_st_HasPrefix (cf:CallF):tbl cf Nf_st_HasPrefix=T_st_HasPrefix cf big:=rfl
theorem tbl_j_Plain_1 (cf:CallF):tbl cf Nf_j_Plain_1=T_j_Plain_1 cf big:=rfl
theorem tbl_st_ContainsFunc (cf:CallF):tbl cf Nf_st_ContainsFunc=T_st_ContainsFunc cf big:=rfl
theorem tbl_sli_IndexFunc___string_string (cf:CallF):tbl cf Nf_sli_IndexFunc___string_string=T_sli_IndexFunc___string_string cf big:=rfl
theorem tbl_sli_Contains___string_string (cf:CallF):tbl cf Nf_sli_Contains___string_string=T_sli_Contains___string_string cf big:=rfl
theorem tbl_st_Builder_copyCheck (cf:CallF):tbl cf Nf_st_Builder_copyCheck=T_st_Builder_copyCheck cf big:=rfl
theorem tbl_sl_HasPrefix (cf:CallF):tbl cf Nf_sl_HasPrefix=T_sl_HasPrefix cf big:=rfl
theorem tbl_st_IndexFunc (cf:CallF):tbl cf Nf_st_IndexFunc=T_st_IndexFunc cf big:=rfl
theorem tbl_sli_Index___string_string (cf:CallF):tbl cf Nf_sli_Index___string_string=T_sli_Index___string_string cf big:=rfl
theorem tbl_st_indexFunc (cf:CallF):tbl cf Nf_st_indexFunc=T_st_indexFunc cf big:=rfl
theorem tbl_l1_wakes (cf:CallF):tbl cf Nf_l1_wakes=extWk Pg:=rfl
end Go.Bvm.JN
set_option linter.unusedVariables false
set_option maxRecDepth 100000
namespace Go.Bvm.JN
noncomputable section
def tblW (cf:CallF) (f:Nat):V→H→KV→Bool:=bs (Nat.ble 59 f) (bs (Nat.ble 77 f) (bs (Nat.ble 83 f) (bs (Nat.ble 88 f) (bs (Nat.ble 90 f) (bs (Nat.ble 92 f) (bs (Nat.beq f 92) (T_st_indexFunc cf big) noF) (bs (Nat.beq f 90) extSame noF)) (bs (Nat.ble 89 f) (bs (Nat.beq f 89) (T_sli_Index___string_string cf big) noF) (bs (Nat.beq f 88) (T_st_IndexFunc cf big) noF))) (bs (Nat.ble 85 f) (bs (Nat.ble 87 f) (bs (Nat.beq f 87) (T_sl_HasPrefix cf big) noF) (bs (Nat.beq f 85) (T_st_Builder_copyCheck cf big) noF)) (bs (Nat.beq f 83) (T_sli_Contains___string_string cf big) noF))) (bs (Nat.ble 80 f) (bs (Nat.ble 81 f) (bs (Nat.ble 82 f) (bs (Nat.beq f 82) (T_sli_IndexFunc___string_string cf big) noF) (bs (Nat.beq f 81) (T_st_ContainsFunc cf big) noF)) (bs (Nat.beq f 80) (T_j_Plain_1 cf big) noF)) (bs (Nat.ble 78 f) (bs (Nat.ble 79 f) (bs (Nat.beq f 79) extIdx noF) (bs (Nat.beq f 78) (T_st_HasPrefix cf big) noF)) (bs (Nat.beq f 77) (T_j_parser_name cf big) noF)))) (bs (Nat.ble 69 f) (bs (Nat.ble 73 f) (bs (Nat.ble 75 f) (bs (Nat.ble 76 f) (bs (Nat.beq f 76) (T_st_Builder_WriteByte cf big) noF) (bs (Nat.beq f 75) (T_j_quoted cf big) noF)) (bs (Nat.ble 74 f) (bs (Nat.beq f 74) (extTen 20 1) noF) (bs (Nat.beq f 73) (T_st_Builder_WriteString cf big) noF))) (bs (Nat.ble 70 f) (bs (Nat.ble 71 f) (bs (Nat.beq f 71) (T_j_twice cf big) noF) (bs (Nat.beq f 70) (T_sli_ContainsFunc___string_string cf big) noF)) (bs (Nat.beq f 69) (T_j_node_1 cf big) noF))) (bs (Nat.ble 66 f) (bs (Nat.ble 67 f) (bs (Nat.ble 68 f) (bs (Nat.beq f 68) (T_j_Plain cf big) noF) (bs (Nat.beq f 67) (T_j_IsNum cf big) noF)) (bs (Nat.beq f 66) (T_j_same cf big) noF)) (bs (Nat.ble 60 f) (bs (Nat.ble 61 f) (bs (Nat.beq f 61) (T_sl_IndexByte cf big) noF) (bs (Nat.beq f 60) (T_j_Number cf big) noF)) (bs (Nat.beq f 59) (T_j_String cf big) noF))))) (bs (Nat.ble 37 f) (bs (Nat.ble 52 f) (bs (Nat.ble 55 f) (bs (Nat.ble 57 f) (bs (Nat.ble 58 f) (bs (Nat.beq f 58) (T_j_parser_pairs cf big) noF) (bs (Nat.beq f 57) (T_j_parser_list cf big) noF)) (bs (Nat.ble 56 f) (bs (Nat.beq f 56) (T_j_parser_take cf big) noF) (bs (Nat.beq f 55) (T_st_Builder_String cf big) noF))) (bs (Nat.ble 53 f) (bs (Nat.ble 54 f) (bs (Nat.beq f 54) (T_j_spell cf big) noF) (bs (Nat.beq f 53) extSh noF)) (bs (Nat.beq f 52) (T_j_node cf big) noF))) (bs (Nat.ble 40 f) (bs (Nat.ble 41 f) (bs (Nat.ble 42 f) (bs (Nat.beq f 42) (T_j_parser_add cf big) noF) (bs (Nat.beq f 41) (T_j_parser_literal cf big) noF)) (bs (Nat.beq f 40) (T_st_IndexByte cf big) noF)) (bs (Nat.ble 38 f) (bs (Nat.ble 39 f) (bs (Nat.beq f 39) (T_j_parser_number cf big) noF) (bs (Nat.beq f 38) (T_j_digit cf big) noF)) (bs (Nat.beq f 37) (T_j_parser_text cf big) noF)))) (bs (Nat.ble 24 f) (bs (Nat.ble 34 f) (bs (Nat.ble 35 f) (bs (Nat.ble 36 f) (bs (Nat.beq f 36) (T_j_parser_begin cf big) noF) (bs (Nat.beq f 35) (T_j_parser_nested cf big) noF)) (bs (Nat.beq f 34) (T_j_parser_see cf big) noF)) (bs (Nat.ble 31 f) (bs (Nat.ble 32 f) (bs (Nat.beq f 32) (T_j_Text cf big) noF) (bs (Nat.beq f 31) (T_j_May cf big) noF)) (bs (Nat.beq f 24) (T_j_parser_bad cf big) noF))) (bs (Nat.ble 17 f) (bs (Nat.ble 22 f) (bs (Nat.ble 23 f) (bs (Nat.beq f 23) (T_j_parser_blanks cf big) noF) (bs (Nat.beq f 22) (T_j_parser_value cf big) noF)) (bs (Nat.beq f 17) (T_j_Write cf big) noF)) (bs (Nat.ble 12 f) (bs (Nat.ble 15 f) (bs (Nat.beq f 15) (T_l1_wakes cf big) noF) (bs (Nat.beq f 12) (T_l1_num cf big) noF)) (bs (Nat.beq f 10) (T_j_Read cf big) noF)))))
def pinL:List (Nat×Nat×Nat×Nat):=[(1,0,0,0)]
end
theorem whole_run:T_l1_wakes (run tblW 80) big V.nil ⟨4,putM (pinsM pinL) t6⟩ (fun v _=>onT v fun b=>b)=true:=by decide +kernel
end Go.Bvm.JN
