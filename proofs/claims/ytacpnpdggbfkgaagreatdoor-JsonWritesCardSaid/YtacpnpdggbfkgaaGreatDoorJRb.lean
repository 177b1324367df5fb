/- Functions run by the abstract machine on values that are not all known. Conditions: stated in each theorem. -/
import Derived.Test.YtacpnpdggbfkgaaGreatDoorJRa
set_option linter.unusedVariables false
set_option linter.unusedSimpArgs false
set_option linter.unusedVariables false
set_option maxRecDepth 20000
namespace Go.Bvm.JN
open Go.Bvm
theorem take_succ_eq {α:Type} {a b:List α} {i:Nat} (ha:i<a.length) (hb:i<b.length):a.take (i+1)=b.take (i+1)↔a.take i=b.take i∧a[i]=b[i]:=by
 rw [List.take_succ_eq_append_getElem ha,List.take_succ_eq_append_getElem hb]
 constructor
 ·intro h
  have h1:=congrArg List.length h
  have:=List.append_inj h (by simp at h1 ⊢;omega)
  exact ⟨this.1,by simpa using this.2⟩
 ·rintro ⟨h1,h2⟩;rw [h1,h2]
theorem ne_of_at {α:Type} {a b:List α} {i:Nat} {ha:i<a.length} {hb:i<b.length} (h:¬ a[i]=b[i]):¬ a=b:=fun e=>by subst e;exact h rfl
theorem EqNumbers_w {X Y:List Nat} {h:H} {va vb:V} {a b:List Int} {k:KV} (A:Sl X h va a) (B:Sl Y h vb b) (hb:a.length<big) {n:Nat} (K:k (.t (decide (a=b))) h=true):run tbl (n+1) Nf_z_EqNumbers (vl [va,vb]) h k=true:=by
 rw [run_succ,tbl_z_EqNumbers]
 have ab:=A.bd;have bb:=B.bd
 have hm:maxB=140737488355328:=rfl
 unfold T_z_EqNumbers z_EqNumbers_6 z_EqNumbers_0 z_EqNumbers_4 z_EqNumbers_5
 simp (disch:=omega) [A.lenL,B.lenL]
 by_cases hl:a.length=b.length
 ·have hl':(a.length:Int)=b.length:=by omega
  simp [hl']
  refine loop_w (fun m e h'=>∃ i:Nat,m=a.length-i∧i≤a.length∧e=f8 (V.t false) (wz i) va vb V.u V.u V.u V.u∧h'=h∧a.take i=b.take i) ?_ big a.length _ _ ⟨0,by simp⟩ hb
  rintro m e h' ⟨i,rfl,hi,rfl,rfl,ht⟩ K' Kn Kx Kr
  unfold z_EqNumbers_1 z_EqNumbers_2 z_EqNumbers_3
  simp (disch:=omega) [A.lenL]
  by_cases hi2:i<a.length
  ·obtain ⟨ra,a1⟩:=at_Int A hi2
   obtain ⟨rb,b1⟩:=at_Int B (show i<b.length by omega)
   simp (disch:=omega) [a1,b1,hi2]
   by_cases c:a[i]=b[i]
   ·simp (disch:=omega) [c]
    exact Kn _ _ _ (by omega) ⟨i+1,rfl,hi2,rfl,rfl,(take_succ_eq hi2 (by omega)).2 ⟨ht,c⟩⟩
   ·simp [c]
    refine Kr _ _ ?_
    simpa [ne_of_at c] using K
  ·simp [hi2]
   refine Kx _ _ _ ?_
   have:a=b:=by rw [List.take_of_length_le (by omega),List.take_of_length_le (by omega)] at ht;exact ht
   simpa [this] using K
 ·have hl':¬ (a.length:Int)=b.length:=by omega
  have:¬ a=b:=fun e=>hl (by rw [e])
  simpa [hl',this] using K
end Go.Bvm.JN
set_option linter.unusedVariables false
set_option linter.unusedSimpArgs false
set_option maxRecDepth 20000
namespace Go.Bvm.JN
open Go.Bvm
theorem drop_getD {s:List UInt8} {i:Nat} {c:UInt8} {r:List UInt8} (h:s.drop i=c::r):s.getD i 0=c∧s.drop (i+1)=r∧i<s.length:=by
 have hi:i<s.length:=by
  rcases Nat.lt_or_ge i s.length with k | k
  ·exact k
  ·rw [List.drop_eq_nil_of_le k] at h;simp at h
 rw [List.drop_eq_getElem_cons hi] at h
 simp only [List.cons.injEq] at h
 exact ⟨by rw [List.getD_eq_getElem?_getD,List.getElem?_eq_getElem hi];exact h.1,h.2,hi⟩
def isDig (c:UInt8):Bool:=decide (48≤c) && decide (c≤57)
def satF:Int→List UInt8→Int
 | n,[]=>n
 | n,c::r=>satF (if n≤1073741824 then n*10+(c-48).toNat else n) r
theorem satF_bd:∀ (l:List UInt8) (n:Int),l.all isDig=true→0≤n→n≤20000000000→0≤satF n l∧satF n l≤20000000000
 | [],n,_,h0,h1=>⟨h0,h1⟩
 | c::r,n,ha,h0,h1=>by
  simp only [List.all_cons,Bool.and_eq_true] at ha
  have hc:(c-48).toNat≤9:=by
   have:=ha.1
   unfold isDig at this
   simp only [Bool.and_eq_true,decide_eq_true_eq] at this
   rw [UInt8.toNat_sub_of_le _ _ this.1]
   have:=UInt8.le_iff_toNat_le.1 this.2
   simp at this ⊢;omega
  unfold satF
  split
  ·exact satF_bd r _ ha.2 (by omega) (by omega)
  ·exact satF_bd r _ ha.2 h0 h1
theorem tw_all:∀ (l:List UInt8),(l.takeWhile isDig).all isDig=true
 | []=>rfl
 | c::r=>by
  rw [List.takeWhile_cons]
  split
  ·rename_i h;rw [List.all_cons,h,tw_all r];rfl
  ·rfl
def negB (s:List UInt8):Bool:=decide (1≤s.length) && decide (s.take 1=[45])
def numDs (s:List UInt8):List UInt8:=(if negB s then s.drop 1 else s).takeWhile isDig
def numOk (s:List UInt8):Bool:=!(decide (((numDs s).length:Int)=0) || decide (1073741824<satF 0 (numDs s)) || decide (s.getD (if negB s then 1 else 0) 0=48) && (decide (1<((numDs s).length:Int)) || negB s))
def numSz (s:List UInt8):Int:=(if negB s then 1 else 0)+(numDs s).length
def numV (s:List UInt8):Int:=if numOk s then (if negB s then -1 else 1)*satF 0 (numDs s) else 0
theorem numDs_le (s:List UInt8):numSz s≤s.length:=by
 unfold numSz numDs
 cases h:negB s with
 | false=>have:=(List.takeWhile_sublist isDig (l:=s)).length_le;simp;omega
 | true=>
  have h1:1≤s.length:=by unfold negB at h;simp at h;omega
  have:=(List.takeWhile_sublist isDig (l:=s.drop 1)).length_le
  rw [List.length_drop] at this
  simp at this ⊢;omega
end Go.Bvm.JN
set_option linter.unusedVariables false
set_option linter.unusedSimpArgs false
set_option maxRecDepth 20000
namespace Go.Bvm.JN
open Go.Bvm
noncomputable abbrev pnil:V:=.x .pnil V.nil V.nil
noncomputable abbrev inil:V:=.x .inil V.nil V.nil
noncomputable abbrev tup0:V:=.x .tup V.nil V.nil
abbrev MB:List Nat:=[kO Ty_strings_Builder,kR Ty_uint8]
def WO (c:Nat) (h:H) (b:Nat) (l:Str):Prop:=(b<h.next∧c≤b)∧∃ a v,Bk h b 0 0 Ty_strings_Builder true true [a,v]∧(a=pnil∨a=.p b 0 2 0)∧(l=[]→v=slnil)∧SlO [] c h v l
theorem WO.fz {c a d:Nat} {M:List Nat} {h h':H} {b:Nat} {l:Str} (P:WO c h b l) (F:Fz a d M h h') (hb:h.next≤d) (q:∀ k,k∈kO Ty_uint8::MB→k∉M):WO c h' b l:=by
 obtain ⟨hp,x,v,B,ha,hz,S⟩:=P
 exact ⟨⟨Nat.lt_of_lt_of_le hp.1 F.nx,hp.2⟩,x,v,B.fz F (Nat.lt_of_lt_of_le hp.1 hb) (q _ (by simp)),ha,hz,S.fz F hb fun k hk=>q k (mem_of hk (by decide))⟩
theorem noescape_eq (n:Nat) (v:V) (h:H) (k:KV):run tbl (n+1) Nf_abi_NoEscape (vl [v]) h k=k v h:=rfl
theorem cvU_bk {h:H} {id ver frz elem off lim:Nat} {ex own:Bool} {l:List V} (b:Bk h id ver frz elem ex own l) (hl:off<lim) (k:V→Bool):cvU (.p id off lim ver) h k=k (.p id off lim ver):=by
 obtain ⟨c,h2,_⟩:=b
 show onBk (hget id h.tr) _=_
 rw [h2]
 show both (Nat.beq ver ver) (both (Nat.ble (Nat.succ off) lim) _)=_
 rw [beq_dec,ble_dec,bothd rfl,bothd (Nat.succ_le_of_lt hl)]
theorem cvP_bk {h:H} {id elem lim frz n:Nat} {own:Bool} {l:List V} (b:Bk h id 0 frz elem true own l) (hn:l.length=n) (k:V→Bool):cvP elem n (.p id 0 lim 0) h k=k (.p id 0 lim 0):=by
 subst hn
 obtain ⟨c,h2,_⟩:=b
 show onBk (hget id h.tr) _=_
 rw [h2]
 show both (Nat.beq 0 0) (both (Nat.beq elem elem) (both (Nat.beq 0 0) (both true (both (Nat.beq l.length l.length) _))))=_
 rw [beq_dec elem,beq_dec l.length,bothd rfl,bothd rfl]
 rfl
theorem copyCheck_w {c:Nat} {h:H} {b:Nat} {l:Str} {k:KV} (P:WO c h b l) {n:Nat} (K:∀ h' v,b<h'.next→Bk h' b 0 0 Ty_strings_Builder true true [.p b 0 2 0,v]→(l=[]→v=slnil)→SlO [] c h' v l→Fz c h.next [kO Ty_strings_Builder] h h'→k tup0 h'=true):run tbl (n+2) Nf_st_Builder_copyCheck (vl [.p b 0 2 0]) h k=true:=by
 obtain ⟨hp,x,v,B,ha,hz,S⟩:=P
 have L:=fun {o m}=>B.ld (n:=2) rfl (off:=o) (lim:=m)
 rw [run_succ,tbl_st_Builder_copyCheck]
 unfold T_st_Builder_copyCheck st_Builder_copyCheck_0
 rcases ha with rfl | rfl
 ·simp -implicitDefEqProofs (disch:=omega) [L,cvU_bk B,noescape_eq,cvP_bk B (n:=2) rfl,idB]
  refine st_w B (by simp) (by decide) rfl fun h' n' B' o=>?_
  have F:Fz c h.next [kO Ty_strings_Builder] h h':=(Fz.refl c h.next _ h).put o hp.2 (.inr (by rw [B.kd];exact List.mem_cons_self))
  exact K h' v (by omega) (by simpa using B') hz (S.fz F (Nat.le_refl _) (by decide)) F
 ·simp -implicitDefEqProofs (disch:=omega) [L,nots]
  exact K h v hp.1 B hz S (Fz.refl _ _ _ _)
theorem writeByte_w {c:Nat} {h:H} {b:Nat} {l:Str} {k:KV} (P:WO c h b l) (hl:l.length≤1000000000) {y:UInt8} {n:Nat} (K:∀ h',WO c h' b (l++[y])→Fz c h.next MB h h'→k inil h'=true):run tbl (n+3) Nf_st_Builder_WriteByte (vl [.p b 0 2 0,vy y]) h k=true:=by
 have hp:=P.1
 rw [run_succ,tbl_st_Builder_WriteByte]
 unfold T_st_Builder_WriteByte st_Builder_WriteByte_0
 simp -implicitDefEqProofs
 refine copyCheck_w P fun h1 v hb B hz S F1=>?_
 have L:=fun {o m}=>B.ld (n:=2) rfl (off:=o) (lim:=m)
 have n1:=F1.nx
 simp -implicitDefEqProofs (disch:=omega) [L]
 refine S.app1 (x:=y) rfl (by decide) rfl (by decide) (by show (l.length+1)*1≤_;omega) (by omega) (by simp) (by decide) fun h2 w S2 _ _ F2=>?_
 have B2:=B.fz F2 hb (by decide)
 have n2:=F2.nx
 refine st_w B2 (by simp) (by decide) S2.sl.one fun h3 n3 B3 o=>?_
 have F3:Fz c h2.next [kO Ty_strings_Builder] h2 h3:=(Fz.refl c h2.next _ h2).put o hp.2 (.inr (by rw [B2.kd];exact List.mem_cons_self))
 exact K h3 ⟨⟨by omega,hp.2⟩,_,_,B3,.inr rfl,by simp,S2.fz F3 (Nat.le_refl _) (by decide)⟩ (((F1.mono (Nat.le_refl _) (Nat.le_refl _) (by decide)).trans F2 (Nat.le_refl _) n1 (by decide)).trans F3 (Nat.le_refl _) (by omega) (by decide))
theorem packA_ok {c:Arr}:∀ (l:Str) (i:Nat) (k:Nat→Bool),(∀ j (hj:j<l.length),aget (i+j) c=vy l[j])→packA c l.length i k=k (pack l)
 | [],i,k,h=>rfl
 | b::r,i,k,h=>by
  have h0:=h 0 (by simp)
  rw [Nat.add_zero] at h0
  show onY (aget i c) _=_
  rw [h0]
  show packA c r.length (i+1) (fun q=>k (b.toNat+256*q))=_
  rw [packA_ok r (i+1) _ (fun j hj=>by
   have:=h (j+1) (by simpa using hj)
   rw [show i+(j+1)=i+1+j from by omega] at this
   exact this)]
  rfl
theorem onBk_bk (c:Arr) (size bver frz elem:Nat) (ex own:Bool) (f:Arr→Nat→Nat→Nat→Nat→Bool→Bool→Bool):onBk (.bk c size bver frz elem ex own) f=f c size bver frz elem ex own:=rfl
theorem usS_w0 (e id off lim ver m:Nat) (h:H) (k:KV):usS e (.p id off lim ver) (.w m) h k=both (Nat.ble bias m) (bs (Nat.beq m bias) (k (.s 0 0) h) (onBk (hget id h.tr) fun c size bver frz elem ex own=>both own (both (Nat.beq ver bver) (both (Nat.ble (off+(m-bias)) lim) (both (both (Nat.beq elem e) (Nat.ble (m-bias) 1000000000))
  (packA c (m-bias) off fun r=>k (.s (m-bias) r) ⟨h.next,hset id (.bk c size bver frz elem ex false) h.tr⟩)))))):=by
 unfold usS onW onP isPnil
 rfl
theorem usS_w {h:H} {id ver frz elem:Nat} {ex:Bool} {l:Str} {k:KV} (b:Bk h id ver frz elem ex true (l.map vy)) (hlen:l.length≤1000000000) (h0:0<l.length)
  (K:∀ h',h'.next=h.next→Only h h' id→k (vs l) h'=true):usS elem (.p id 0 (l.length*1) ver) (wz l.length) h k=true:=by
 obtain ⟨c,h2,h3,h4⟩:=b
 unfold wz
 obtain ⟨m,hm⟩ : ∃ m,m=((l.length:Int)+9223372036854775808).toNat:=⟨_,rfl⟩
 rw [← hm]
 have hb:bias=9223372036854775808:=rfl
 have e:m-bias=l.length:=by omega
 rw [usS_w0,ble_dec,bothd (by omega),beq_dec,show decide (m=bias)=false from by simp;omega,bs_false,h2,onBk_bk]
 rw [e,packA_ok l 0 _ (fun j hj=>by rw [Nat.zero_add,h4 j (by simpa using hj)];simp)]
 rw [both_t,beq_dec,beq_dec,ble_dec,ble_dec,bothd rfl,bothd (by omega)]
 rw [show both (decide (elem=elem)) (decide (l.length≤1000000000))=true from by rw [bothd rfl];simp;omega]
 exact K _ rfl ⟨Nat.le_refl _,fun i q=>by
  show hget i (hset id _ h.tr)=_
  rw [hget_hset _ _ _ _ (Nat.zero_le _) (Nat.zero_le _),if_neg q]⟩
theorem sdata_sl (id off len ver es:Nat) (h:1≤len) (k:V→Bool):sdata (.sl id off len ver es) k=k (.p id off (off+len*es) ver):=by
 show both (Nat.ble 1 len) _=_
 rw [ble_dec,bothd h]
theorem bytes_flat:∀ {cs:List (List V)} {l:Str} {h:H},All [] h cs l→cs.flatten=l.map vy
 | [],[],h,A=>rfl
 | [],b::l,h,A=>by have:=A.1;simp at this
 | c::r,[],h,A=>by have:=A.1;simp at this
 | c::r,b::l,h,A=>by
  have e:c=[vy b]:=A.2 0 c b rfl rfl
  rw [List.flatten_cons,e,bytes_flat (l:=l) (h:=h) ⟨by have:=A.1;simpa using this,fun i c x e1 e2=>A.2 (i+1) c x e1 e2⟩]
  rfl
theorem builderString_w {c:Nat} {h:H} {b:Nat} {l:Str} {k:KV} (P:WO c h b l) (hl:l.length≤1000000000) {n:Nat} (K:∀ h',Fz c h.next MB h h'→k (vs l) h'=true):run tbl (n+1) Nf_st_Builder_String (vl [.p b 0 2 0]) h k=true:=by
 obtain ⟨hp,x,v,B,ha,hz,cs,⟨hcn,hcl,q⟩,A⟩:=P
 have L:=fun {o m}=>B.ld (n:=2) rfl (off:=o) (lim:=m)
 rw [run_succ,tbl_st_Builder_String]
 unfold T_st_Builder_String st_Builder_String_0
 simp -implicitDefEqProofs (disch:=omega) [L]
 rcases q with ⟨rfl,rfl⟩ | ⟨id,ver,rfl,hci,hid,B2⟩
 ·have:l=[]:=List.eq_nil_of_length_eq_zero (by rw [← A.1];rfl)
  subst this
  simp -implicitDefEqProofs
  exact K h (Fz.refl _ _ _ _)
 ·have e:=A.1
  rw [e]
  rcases Nat.eq_zero_or_pos l.length with z | z
  ·have:=hz (List.eq_nil_of_length_eq_zero z)
   simp [slnil] at this
  rw [sdata_sl _ _ _ _ _ z,lenL_sl _ _ _ _ _ (by omega)]
  rw [bytes_flat A] at B2
  rw [show (0+l.length*Enc.n UInt8)=l.length*1 from by rw [Nat.zero_add];rfl]
  refine usS_w B2 hl z fun h' n' o=>?_
  exact K h' ((Fz.refl c h.next MB h).put o hci (.inr (by rw [B2.kd];decide)))
end Go.Bvm.JN
set_option linter.unusedVariables false
set_option linter.unusedSimpArgs false
set_option maxRecDepth 20000
namespace Go.Bvm.JN
open Go.Bvm
def scanS:List UInt8→List UInt8→Int→Option (List UInt8×Int)
 | [],_,_=>none
 | c::r,acc,i=>if c=34 then some (acc,i+1) else if c<32 then none else if 126<c then none else if c=92 then (match r with
   | []=>none
   | d::r'=>if d=34∨d=92 then scanS r' (acc++[d]) (i+2) else none) else scanS r (acc++[c]) (i+1)
def sN:Option (List UInt8×Int)→Int:=fun x=>match x with | some y=>y.2 | none=>0
theorem scanS_c (c:UInt8) (r acc:List UInt8) (i:Int):scanS (c::r) acc i=if c=34 then some (acc,i+1) else if c<32 then none else if 126<c then none else if c=92 then (match r with
   | []=>none
   | d::r'=>if d=34∨d=92 then scanS r' (acc++[d]) (i+2) else none) else scanS r (acc++[c]) (i+1):=by
 rw [scanS.eq_def]
theorem scanS_bd:∀ (n:Nat) (r acc:List UInt8) (i:Int) (y:List UInt8×Int),r.length≤n→scanS r acc i=some y→i<y.2∧y.2≤i+r.length∧y.1.length≤acc.length+r.length
 | n,[],acc,i,y,_,h=>by simp [scanS] at h
 | 0,c::r,acc,i,y,hl,h=>by simp at hl
 | n+1,c::r,acc,i,y,hl,h=>by
  rw [scanS_c] at h
  have hlen:(c::r).length=r.length+1:=List.length_cons
  rw [hlen] at hl ⊢
  by_cases c1:c=34
  ·rw [if_pos c1] at h
   simp only [Option.some.injEq] at h
   subst h
   exact ⟨by show i<i+1;omega,by show i+1≤_;omega,by show acc.length≤_;omega⟩
  ·rw [if_neg c1] at h
   by_cases c2:c<32
   ·rw [if_pos c2] at h;simp at h
   ·rw [if_neg c2] at h
    by_cases c3:126<c
    ·rw [if_pos c3] at h;simp at h
    ·rw [if_neg c3] at h
     by_cases c4:c=92
     ·rw [if_pos c4] at h
      cases r with
      | nil=>simp at h
      | cons d r=>
       dsimp only at h
       by_cases d1:d=34∨d=92
       ·rw [if_pos d1] at h
        have:=scanS_bd n r _ _ y (by simp at hl;omega) h
        simp at this ⊢;omega
       ·rw [if_neg d1] at h;simp at h
     ·rw [if_neg c4] at h
      have:=scanS_bd n r _ _ y (by omega) h
      simp at this ⊢;omega
def strF (s:Str):Option (Str×Int):=scanS (s.drop 1) [] 1
theorem sidx_at {s:Str} {i:Int} {c:UInt8} {r:Str} (h:s.drop i.toNat=c::r) (h0:0≤i) (k:V→Bool):sidxV (vs s) (wz i) k=k (vy c):=by
 obtain ⟨g1,g2,g3⟩:=drop_getD h
 rw [sidxV_d s i h0 (by omega),g1]
end Go.Bvm.JN
set_option linter.unusedVariables false
set_option linter.unusedSimpArgs false
set_option maxRecDepth 20000
namespace Go.Bvm.JN
open Go.Bvm
abbrev St:=json_parser
noncomputable abbrev pp (p:Nat):V:=.p p 0 7 0
namespace P
def see (x:St):UInt8:=if x.e≠0 then 0 else x.s.getD x.i.toNat 0
def bad (x:St) (e a:Int):St:=if x.e=0 then { x with e:=e,at_:=a } else x
def blankB (c:UInt8):Bool:=decide (c=32) || decide (c=9) || decide (c=10) || decide (c=13)
def skip (s:Str) (i:Int):Int:=i+((s.drop i.toNat).takeWhile blankB).length
def blanks (x:St):St:=if x.e≠0 then x else { x with i:=skip x.s x.i }
def take (x:St) (c:UInt8):St:=if see x≠c then bad x 4 x.i else { x with i:=x.i+1 }
def begin_ (x:St) (deep:Bool):St:={ (if 300≤x.begun∨(deep=true∧8≤x.depth) then bad x 2 x.i else x) with begun:=x.begun+1 }
def add (x:St) (y:api_Json):St:={ x with l:=x.l++[y] }
def text (x:St):Str×St:=match strF (x.s.drop x.i.toNat) with | none=>([],bad x 4 x.i) | some y=>(y.1,{ x with i:=x.i+y.2 })
def number (x:St):Int×St:=(numV (x.s.drop x.i.toNat),{ (if numOk (x.s.drop x.i.toNat) then x else bad x 4 x.i) with i:=x.i+numSz (x.s.drop x.i.toNat) })
def literal (x:St) (w:Str):St:=w.foldl take x
end P
structure PI (x:St):Prop where
 i0:0≤x.i
 i1:x.i≤x.s.length
 s1:x.s.length≤3000
section
variable {W:List Nat} {c:Nat} {h:H} {p:Nat} {x:St} {k:KV} {n:Nat} (O:json_parserO W c h p x) (I:PI x)
include O
end
end Go.Bvm.JN
set_option linter.unusedVariables false
set_option linter.unusedSimpArgs false
set_option maxRecDepth 20000
namespace Go.Bvm.JN
open Go.Bvm
theorem strF_bd {s:Str} {y:Str×Int} (h:strF s=some y):1<y.2∧y.2≤s.length∧y.1.length≤s.length:=by
 have:=scanS_bd _ _ _ _ y (Nat.le_refl _) h
 rw [List.length_drop] at this
 have h1:1≤s.length:=by
  cases s with
  | nil=>simp [strF,scanS] at h
  | cons=>simp
 have h3:([]:Str).length=0:=rfl
 rw [h3] at this
 omega
theorem numSz_0 (s:Str):0≤numSz s:=by unfold numSz;split <;> omega
theorem numV_bd (s:Str):-20000000000≤numV s∧numV s≤20000000000:=by
 have:=satF_bd (numDs s) 0 (tw_all _) (by omega) (by omega)
 unfold numV
 split
 ·split <;> omega
 ·omega
theorem P.bad_s (x:St) (e a:Int):(P.bad x e a).s=x.s:=by unfold P.bad;split <;> rfl
section
variable {W:List Nat} {c:Nat} {h:H} {p:Nat} {x:St} {k:KV} {n:Nat} (O:json_parserO W c h p x) (I:PI x)
include O
end
end Go.Bvm.JN
set_option linter.unusedVariables false
set_option linter.unusedSimpArgs false
set_option maxRecDepth 20000
namespace Go.Bvm.JN
open Go.Bvm
def idxS (s:Str):List Str→Int→Int
 | [],_=>-1
 | a::r,i=>if s=a then i else idxS s r (i+1)
theorem idxS_bd (s:Str):∀ (xs:List Str) (i:Int),0≤i→-1≤idxS s xs i∧idxS s xs i<i+xs.length+1∧(0≤idxS s xs i↔s∈xs)
 | [],i,h=>by simp [idxS];omega
 | a::r,i,h=>by
  have:=idxS_bd s r (i+1) (by omega)
  unfold idxS
  by_cases e:s=a
  ·rw [if_pos e,List.length_cons]
   exact ⟨by omega,by omega,⟨fun _=>by simp [e],fun _=>h⟩⟩
  ·rw [if_neg e,List.length_cons]
   refine ⟨by omega,by omega,?_⟩
   rw [this.2.2];simp [e]
theorem drop_cons {α:Type} {xs:List α} {i:Nat} (h:i<xs.length):xs.drop i=xs[i]::xs.drop (i+1):=List.drop_eq_getElem_cons h
theorem index_w {W:List Nat} {h:H} {v:V} {xs:List Str} {s:Str} {k:KV} (A:Sl W h v xs) (hl:xs.length≤1000000) {n:Nat} (K:k (wz (idxS s xs 0)) h=true):run tbl (n+1) Nf_sli_Index___string_string (vl [v,vs s]) h k=true:=by
 rw [run_succ,tbl_sli_Index___string_string]
 unfold T_sli_Index___string_string sli_Index___string_string_6 sli_Index___string_string_4
 simp -implicitDefEqProofs (disch:=omega) [A.lenL]
 refine loop_w (fun m e h'=>∃ j:Nat,j≤xs.length∧m=xs.length-j∧e=f8 (wz 0) (wz j) (wz xs.length) (vs s) v V.u V.u V.u∧h'=h∧idxS s (xs.drop j) j=idxS s xs 0) ?_ big xs.length _ _ ⟨0,by omega,rfl,rfl,rfl,rfl⟩ (by unfold big;omega)
 rintro m e h1 ⟨j,hj,rfl,rfl,rfl,hi⟩ K' Kn Kx Kr
 unfold sli_Index___string_string_3 sli_Index___string_string_0
 by_cases hj2:j<xs.length
 ·obtain ⟨ra,L⟩:=at_Str A hj2
  rw [drop_cons hj2,idxS] at hi
  unfold sli_Index___string_string_1 sli_Index___string_string_2
  by_cases e:s=xs[j]
  ·rw [if_pos e] at hi
   simp -implicitDefEqProofs (disch:=omega) [hj2,L,e]
   refine Kr _ _ ?_
   simp -implicitDefEqProofs (disch:=omega) [hi]
   exact K
  ·rw [if_neg e] at hi
   simp -implicitDefEqProofs (disch:=omega) [hj2,L,e]
   exact Kn _ _ _ (by omega) ⟨j+1,by omega,rfl,by simp,rfl,by simpa using hi⟩
 ·simp -implicitDefEqProofs (disch:=omega) [hj2]
  refine Kx _ _ _ ?_
  unfold sli_Index___string_string_5
  rw [List.drop_eq_nil_of_le (by omega)] at hi
  simp -implicitDefEqProofs (disch:=omega)
  rw [← hi] at K
  exact K
theorem contains_w {W:List Nat} {h:H} {v:V} {xs:List Str} {s:Str} {k:KV} (A:Sl W h v xs) (hl:xs.length≤1000000) {n:Nat} (K:k (.t (decide (s∈xs))) h=true):run tbl (n+2) Nf_sli_Contains___string_string (vl [v,vs s]) h k=true:=by
 rw [run_succ,tbl_sli_Contains___string_string]
 unfold T_sli_Contains___string_string sli_Contains___string_string_0
 simp -implicitDefEqProofs (disch:=omega)
 refine index_w A hl ?_
 have hb:=idxS_bd s xs 0 (by omega)
 simp -implicitDefEqProofs (disch:=omega) [hb.2.2]
 exact K
namespace P
def name (x:St) (keys:List Str):Str×St:=
 let x0:=blanks x
 if see x0=34 then
  let t:=text x0
  (t.1,take (blanks (if t.1∈keys then bad t.2 4 x0.i else t.2)) 58)
 else ([],bad x0 4 x0.i)
structure Q (x x':St):Prop where
 pi:PI x'
 ge:x.i≤x'.i
 s:x'.s=x.s
 l:x'.l=x.l
 b:x'.begun=x.begun
 d:x'.depth=x.depth
theorem Q.refl {x:St} (I:PI x):Q x x:=⟨I,Int.le_refl _,rfl,rfl,rfl,rfl⟩
theorem Q.trans {x y z:St} (a:Q x y) (b:Q y z):Q x z:=⟨b.pi,Int.le_trans a.ge b.ge,b.s.trans a.s,b.l.trans a.l,b.b.trans a.b,b.d.trans a.d⟩
theorem bad_q (x:St) (e a:Int) (I:PI x):Q x (bad x e a):=by
 obtain ⟨i0,i1,s1⟩:=I
 unfold bad;split <;> exact ⟨⟨i0,i1,s1⟩,Int.le_refl _,rfl,rfl,rfl,rfl⟩
theorem skip_bd (s:Str) (i:Int) (h0:0≤i) (h1:i≤s.length):i≤skip s i∧skip s i≤s.length:=by
 unfold skip
 have:=(List.takeWhile_sublist blankB (l:=s.drop i.toNat)).length_le
 rw [List.length_drop] at this
 omega
theorem blanks_q (x:St) (I:PI x):Q x (blanks x):=by
 have hb:=skip_bd x.s x.i I.i0 I.i1
 unfold blanks
 split
 ·exact Q.refl I
 ·exact ⟨⟨by show 0≤skip x.s x.i;have:=I.i0;omega,hb.2,I.s1⟩,hb.1,rfl,rfl,rfl,rfl⟩
theorem see_lt {x:St} (I:PI x) (h:see x≠0):x.e=0∧x.i<x.s.length:=by
 unfold see at h
 have i0:=I.i0
 by_cases e:x.e=0
 ·refine ⟨e,?_⟩
  rcases (by omega:x.i<x.s.length∨(x.s.length:Int)≤x.i) with q | q
  ·exact q
  ·simp only [e,ne_eq,not_true_eq_false,if_false] at h
   rw [List.getD_eq_getElem?_getD,List.getElem?_eq_none (by omega)] at h
   exact absurd rfl h
 ·simp [e] at h
theorem take_q (x:St) (y:UInt8) (hy:y≠0) (I:PI x):Q x (take x y):=by
 unfold take
 split
 ·exact bad_q x _ _ I
 ·rename_i h
  have h:see x=y:=by simpa using h
  have:=(see_lt I (by rw [h];exact hy)).2
  have i0:=I.i0
  exact ⟨⟨by show 0≤x.i+1;omega,by show x.i+1≤(x.s.length:Int);omega,I.s1⟩,by show x.i≤x.i+1;omega,rfl,rfl,rfl,rfl⟩
theorem text_q (x:St) (I:PI x):Q x (text x).2∧(text x).1.length≤3000:=by
 unfold text
 have i0:=I.i0;have i1:=I.i1;have s1:=I.s1
 cases hq:strF (x.s.drop x.i.toNat) with
 | none=>exact ⟨bad_q x _ _ I,by simp⟩
 | some y=>
  have hb:=strF_bd hq
  rw [List.length_drop] at hb
  exact ⟨⟨⟨by show 0≤x.i+y.2;omega,by show x.i+y.2≤(x.s.length:Int);omega,s1⟩,by show x.i≤x.i+y.2;omega,rfl,rfl,rfl,rfl⟩,by show y.1.length≤3000;omega⟩
theorem number_q (x:St) (I:PI x):Q x (number x).2:=by
 unfold number
 have i0:=I.i0;have i1:=I.i1;have s1:=I.s1
 have hd:(x.s.drop x.i.toNat).length=x.s.length-x.i.toNat:=List.length_drop
 have hle:=numDs_le (x.s.drop x.i.toNat)
 have h0:=numSz_0 (x.s.drop x.i.toNat)
 split
 ·exact ⟨⟨by show 0≤x.i+_;omega,by show x.i+_≤(x.s.length:Int);omega,s1⟩,by show x.i≤x.i+_;omega,rfl,rfl,rfl,rfl⟩
 ·have q:=bad_q x 4 x.i I
  exact ⟨⟨by show 0≤x.i+_;omega,by show x.i+_≤((bad x 4 x.i).s.length:Int);rw [q.s];omega,by show (bad x 4 x.i).s.length≤3000;rw [q.s];exact s1⟩,by show x.i≤x.i+_;omega,q.s,q.l,q.b,q.d⟩
theorem literal_q:∀ (w:Str) (x:St),(∀ y∈w,y≠0)→PI x→Q x (literal x w)
 | [],x,_,I=>Q.refl I
 | y::r,x,h,I=>(take_q x y (h y (by simp)) I).trans (literal_q r (take x y) (fun z hz=>h z (by simp [hz])) (take_q x y (h y (by simp)) I).pi)
theorem name_q (x:St) (keys:List Str) (I:PI x):Q x (name x keys).2∧(name x keys).1.length≤3000:=by
 have q0:=blanks_q x I
 unfold name
 dsimp only
 split
 ·obtain ⟨q1,h1⟩:=text_q (blanks x) q0.pi
  have q2:Q x (if (text (blanks x)).1∈keys then bad (text (blanks x)).2 4 (blanks x).i else (text (blanks x)).2):=by
   split
   ·exact q0.trans (q1.trans (bad_q _ _ _ q1.pi))
   ·exact q0.trans q1
  have q3:=q2.trans (blanks_q _ q2.pi)
  exact ⟨q3.trans (take_q _ _ (by decide) q3.pi),h1⟩
 ·exact ⟨q0.trans (bad_q _ _ _ q0.pi),by simp⟩
end P
section
variable {W:List Nat} {c:Nat} {h:H} {p:Nat} {x:St} {k:KV} {n:Nat} (O:json_parserO W c h p x) (I:PI x)
include O
end
end Go.Bvm.JN
set_option linter.unusedVariables false
set_option linter.unusedSimpArgs false
set_option maxRecDepth 20000
namespace Go.Bvm.JN
open Go.Bvm
namespace P
abbrev VF:=St→Int×St
def listL (val:VF):Nat→St→List Int→St×List Int
 | 0,x,ps=>(x,ps)
 | f+1,x,ps=>if x.e=0∧(0<ps.length∨see x≠93) then
   let a:=val x
   let y:=blanks a.2
   if see y=44 then listL val f { y with i:=y.i+1 } (ps++[a.1]) else (y,ps++[a.1])
  else (x,ps)
def list (val:VF) (x:St):List Int×St:=let r:=listL val 4000 (blanks x) [];(r.2,take r.1 93)
def pairsL (val:VF):Nat→St→List Str→List Int→St×List Str×List Int
 | 0,x,ks,ps=>(x,ks,ps)
 | f+1,x,ks,ps=>if x.e=0∧(0<ps.length∨see x≠125) then
   let t:=name x ks
   let a:=val t.2
   let y:=blanks a.2
   if see y=44 then pairsL val f { y with i:=y.i+1 } (ks++[t.1]) (ps++[a.1]) else (y,ks++[t.1],ps++[a.1])
  else (x,ks,ps)
def pairs (val:VF) (x:St):(List Str×List Int)×St:=let r:=pairsL val 4000 (blanks x) [] [];(r.2,take r.1 125)
def open_ (x:St) (c:UInt8):St:=let y:=take (begin_ x true) c;{ y with depth:=y.depth+1 }
def nested (val:VF) (x:St) (c:UInt8):api_Json×St:=
 if c=91 then let r:=list val (open_ x c);(⟨6,0,[],[],r.1⟩,{ r.2 with depth:=r.2.depth-1 })
 else let r:=pairs val (open_ x c);(⟨7,0,[],r.1.1,r.1.2⟩,{ r.2 with depth:=r.2.depth-1 })
def wordOf (c:UInt8):Str:=if c=110 then [110,117,108,108] else if c=102 then [102,97,108,115,101] else [116,114,117,101]
def kindOf (c:UInt8):Int:=if c=110 then 1 else if c=102 then 2 else 3
def body (val:VF) (x:St):api_Json×St:=
 let c:=see x
 if c=91∨c=123 then nested val x c
 else if c=34 then let t:=text (begin_ x false);(⟨5,0,t.1,[],[]⟩,t.2)
 else if c=45∨isDig c=true then let t:=number (begin_ x false);(⟨4,t.1,[],[],[]⟩,t.2)
 else if c=110∨c=102∨c=116 then (⟨kindOf c,0,[],[],[]⟩,literal (begin_ x false) (wordOf c))
 else (⟨0,0,[],[],[]⟩,bad x 4 x.i)
def value:Nat→VF
 | 0,x=>(0,x)
 | f+1,x=>let r:=body (value f) (blanks x);(r.2.l.length,add r.2 r.1)
structure G (u:Nat) (x x':St):Prop where
 pi:PI x'
 ge:x.i≤x'.i
 s:x'.s=x.s
 d:x'.depth=x.depth
 b:x.begun≤x'.begun
 l1:(x'.l.length:Int)≤x.l.length+30*(x'.i-x.i)+u
 l0:x'.e=0→(x'.l.length:Int)≤x.l.length+30*(x'.i-x.i)
 b1:x'.begun≤x.begun+30*(x'.i-x.i)+u
 b0:x'.e=0→x'.begun≤x.begun+30*(x'.i-x.i)
 e:x'.e=0→x.e=0
structure Bd (x:St):Prop where
 pi:PI x
 l:(x.l.length:Int)+30*(x.s.length-x.i)≤200000
 b0:0≤x.begun
 b:x.e=0→x.begun+30*(x.s.length-x.i)≤200000
 b1:x.begun≤1000000
 d0:0≤x.depth
 d:x.e=0→x.depth≤8
theorem bad_e {x:St} {e a:Int} (he:e≠0):(bad x e a).e≠0:=by
 unfold bad;split
 ·exact he
 ·assumption
theorem Q.g {x x':St} (q:Q x x') (h:x'.e=0→x.e=0):G 0 x x':=
 ⟨q.pi,q.ge,q.s,q.d,by rw [q.b];exact Int.le_refl _,by rw [q.l];have:=q.ge;omega,fun _=>by rw [q.l];have:=q.ge;omega,by rw [q.b];have:=q.ge;omega,fun _=>by rw [q.b];have:=q.ge;omega,h⟩
theorem blanks_e (x:St):(blanks x).e=x.e:=by unfold blanks;split <;> rfl
theorem take_e {x:St} {y:UInt8} (h:(take x y).e=0):x.e=0∧(y≠0→(take x y).i=x.i+1∧see x=y):=by
 unfold take at h ⊢
 by_cases hx:see x=y
 ·rw [if_neg (by simpa using hx)] at h ⊢
  exact ⟨h,fun _=>⟨rfl,hx⟩⟩
 ·rw [if_pos hx] at h
  exact absurd h (bad_e (by decide))
theorem text_e {x:St} (h:(text x).2.e=0):x.e=0∧x.i<(text x).2.i:=by
 unfold text at h ⊢
 cases hq:strF (x.s.drop x.i.toNat) with
 | none=>rw [hq] at h;exact absurd h (bad_e (by decide))
 | some y=>rw [hq] at h;have:=strF_bd hq;exact ⟨h,by show x.i<x.i+y.2;omega⟩
theorem numOk_sz {s:Str} (h:numOk s=true):0<numSz s:=by
 unfold numOk at h
 simp only [Bool.not_eq_true',Bool.or_eq_false_iff,decide_eq_false_iff_not] at h
 unfold numSz
 split <;> omega
theorem number_e {x:St} (h:(number x).2.e=0):x.e=0∧x.i<(number x).2.i:=by
 unfold number at h ⊢
 by_cases hq:numOk (x.s.drop x.i.toNat)=true
 ·rw [if_pos hq] at h;have:=numOk_sz hq;exact ⟨h,by show x.i<x.i+_;omega⟩
 ·rw [if_neg hq] at h;exact absurd h (bad_e (by decide))
theorem literal_e:∀ (w:Str) (x:St),(literal x w).e=0→x.e=0
 | [],x,h=>h
 | y::r,x,h=>(take_e (literal_e r (take x y) h)).1
theorem literal_i:∀ (w:Str) (x:St),(∀ y∈w,y≠0)→(literal x w).e=0→(literal x w).i=x.i+w.length
 | [],x,_,h=>by show x.i=x.i+0;omega
 | y::r,x,hy,h=>by
  have h1:=literal_e r (take x y) h
  have h2:=(take_e h1).2 (hy y (by simp))
  have h3:=literal_i r (take x y) (fun z hz=>hy z (by simp [hz])) h
  show (literal (take x y) r).i=_
  rw [h3,h2.1,List.length_cons];omega
theorem G.trans {u v:Nat} {x y z:St} (a:G u x y) (b:G v y z) (h:y.e=0):G v x z:=by
 have a1:=a.l0 h;have a2:=a.b0 h;have a3:=a.ge;have b3:=b.ge;have b4:=b.l1;have b5:=b.b1;have a6:=a.b;have b6:=b.b
 exact ⟨b.pi,by omega,b.s.trans a.s,b.d.trans a.d,by omega,by omega,fun q=>by have:=b.l0 q;omega,by omega,fun q=>by have:=b.b0 q;omega,fun q=>a.e h⟩
theorem G.after {u v:Nat} {x y z:St} (a:G u x y) (b:G v y z) (h:z.e≠0):G (u+v) x z:=by
 have a1:=a.l1;have a2:=a.b1;have a3:=a.ge;have b3:=b.ge;have b4:=b.l1;have b5:=b.b1;have a6:=a.b;have b6:=b.b
 exact ⟨b.pi,by omega,b.s.trans a.s,b.d.trans a.d,by omega,by omega,fun q=>absurd q h,by omega,fun q=>absurd q h,fun q=>absurd q h⟩
theorem G.mono {u v:Nat} {x y:St} (a:G u x y) (h:u≤v):G v x y:=
 ⟨a.pi,a.ge,a.s,a.d,a.b,by have:=a.l1;omega,a.l0,by have:=a.b1;omega,a.b0,a.e⟩
theorem G.to {u v w:Nat} {x y z:St} (a:G u x y) (b:G v y z) (h:u+v≤w):G w x z:=by
 by_cases hz:z.e=0
 ·exact (a.trans b (b.e hz)).mono (by omega)
 ·exact (a.after b hz).mono h
theorem Bd.g {u:Nat} {x y:St} (b:Bd x) (a:G u x y) (h:y.e=0):Bd y:=
 ⟨a.pi,by have:=a.l0 h;have:=b.l;rw [a.s];omega,by have:=a.b;have:=b.b0;omega,fun _=>by have:=a.b0 h;have:=b.b (a.e h);rw [a.s];omega,by have:=a.b0 h;have:=b.b (a.e h);have q1:=a.pi.i1;rw [a.s] at q1;omega,by rw [a.d];exact b.d0,fun _=>by rw [a.d];exact b.d (a.e h)⟩
theorem Bd.q {x y:St} (b:Bd x) (q:Q x y) (he:y.e=0→x.e=0):Bd y:=
 ⟨q.pi,by have:=b.l;have:=q.ge;rw [q.l,q.s];omega,by rw [q.b];exact b.b0,fun e=>by have:=b.b (he e);have:=q.ge;rw [q.b,q.s];omega,by rw [q.b];exact b.b1,by rw [q.d];exact b.d0,fun e=>by rw [q.d];exact b.d (he e)⟩
theorem blanks_g (x:St) (I:PI x):G 0 x (blanks x):=(blanks_q x I).g (by rw [blanks_e];exact id)
theorem next_g {x:St} (I:PI x) (h:see x≠0):G 0 x { x with i:=x.i+1 }:=by
 have:=(see_lt I h).2
 have i0:=I.i0
 exact ⟨⟨by show 0≤x.i+1;omega,by show x.i+1≤(x.s.length:Int);omega,I.s1⟩,by show x.i≤x.i+1;omega,rfl,rfl,Int.le_refl _,by show (x.l.length:Int)≤x.l.length+30*(x.i+1-x.i)+0;omega,fun _=>by show (x.l.length:Int)≤x.l.length+30*(x.i+1-x.i);omega,by show x.begun≤x.begun+30*(x.i+1-x.i)+0;omega,fun _=>by show x.begun≤x.begun+30*(x.i+1-x.i);omega,id⟩
def VB (f:Nat) (val:VF):Prop:=∀ x,Bd x→(x.e=0→9≤f+x.depth)→(x.e≠0→1≤f)→G (2*f+2) x (val x).2∧(x.e=0→(val x).2.e=0→x.i<(val x).2.i)∧0≤(val x).1∧(val x).1<(val x).2.l.length
theorem listL_g {f:Nat} {val:VF} (V:VB f val):∀ (n:Nat) (x:St) (ps:List Int),Bd x→(x.e=0→9≤f+x.depth)→G (2*f+2) x (listL val n x ps).1
 | 0,x,ps,b,_=>((Q.refl b.pi).g id).mono (by omega)
 | n+1,x,ps,b,hf=>by
  unfold listL
  split
  ·rename_i hc
   obtain ⟨g1,_,_⟩:=V x b hf (fun q=>absurd hc.1 q)
   have g2:=blanks_g _ g1.pi
   dsimp only
   split
   ·rename_i h44
    have hz:=(see_lt g2.pi (by rw [h44];decide))
    have e1:(val x).2.e=0:=by rw [← blanks_e];exact hz.1
    have g3:=next_g g2.pi (by rw [h44];decide)
    have g123:=(g1.trans g2 e1).trans g3 hz.1
    exact g123.trans (listL_g V n _ _ (b.g g123 hz.1) (fun _=>by rw [g123.d];exact hf hc.1)) hz.1
   ·exact g1.to g2 (by omega)
  ·exact ((Q.refl b.pi).g id).mono (by omega)
theorem take_g (x:St) (y:UInt8) (hy:y≠0) (I:PI x):G 0 x (take x y):=(take_q x y hy I).g fun h=>(take_e h).1
theorem list_g {f:Nat} {val:VF} (V:VB f val) (x:St) (b:Bd x) (hf:x.e=0→9≤f+x.depth):G (2*f+2) x (list val x).2:=by
 have q0:=blanks_q x b.pi
 have g1:=listL_g V 4000 (blanks x) [] (b.q q0 (by rw [blanks_e];exact id)) (by rw [blanks_e,q0.d];exact hf)
 exact ((blanks_g x b.pi).to g1 (Nat.le_of_eq (Nat.zero_add _))).to (take_g _ 93 (by decide) g1.pi) (Nat.le_refl _)
theorem name_e {x:St} {ks:List Str} (h:(name x ks).2.e=0):x.e=0:=by
 unfold name at h
 dsimp only at h
 split at h
 ·have h1:=(take_e h).1
  rw [blanks_e] at h1
  split at h1
  ·exact absurd h1 (bad_e (by decide))
  ·have:=(text_e h1).1;rwa [blanks_e] at this
 ·exact absurd h (bad_e (by decide))
theorem name_g (x:St) (ks:List Str) (I:PI x):G 0 x (name x ks).2:=(name_q x ks I).1.g name_e
theorem pairsL_g {f:Nat} {val:VF} (V:VB f val):∀ (n:Nat) (x:St) (ks:List Str) (ps:List Int),Bd x→(x.e=0→9≤f+x.depth)→G (2*f+2) x (pairsL val n x ks ps).1
 | 0,x,ks,ps,b,_=>((Q.refl b.pi).g id).mono (by omega)
 | n+1,x,ks,ps,b,hf=>by
  unfold pairsL
  split
  ·rename_i hc
   have q0:=(name_q x ks b.pi).1
   have g0:=name_g x ks b.pi
   have h9:=hf hc.1
   have d8:=b.d hc.1
   obtain ⟨g1,_,_⟩:=V (name x ks).2 (b.q q0 name_e) (fun _=>by rw [q0.d];exact h9) (fun _=>by omega)
   have g2:=blanks_g _ g1.pi
   dsimp only
   split
   ·rename_i h44
    have hz:=(see_lt g2.pi (by rw [h44];decide))
    have e1:(val (name x ks).2).2.e=0:=by rw [← blanks_e];exact hz.1
    have g3:=next_g g2.pi (by rw [h44];decide)
    have g123:=((g0.trans g1 (g1.e e1)).trans g2 e1).trans g3 hz.1
    exact g123.trans (pairsL_g V n _ _ _ (b.g g123 hz.1) (fun _=>by rw [g123.d];exact h9)) hz.1
   ·exact (g0.to g1 (Nat.le_of_eq (Nat.zero_add _))).to g2 (by omega)
  ·exact ((Q.refl b.pi).g id).mono (by omega)
theorem pairs_g {f:Nat} {val:VF} (V:VB f val) (x:St) (b:Bd x) (hf:x.e=0→9≤f+x.depth):G (2*f+2) x (pairs val x).2:=by
 have q0:=blanks_q x b.pi
 have g1:=pairsL_g V 4000 (blanks x) [] [] (b.q q0 (by rw [blanks_e];exact id)) (by rw [blanks_e,q0.d];exact hf)
 exact ((blanks_g x b.pi).to g1 (Nat.le_of_eq (Nat.zero_add _))).to (take_g _ 125 (by decide) g1.pi) (Nat.le_refl _)
end P
end Go.Bvm.JN
set_option linter.unusedVariables false
set_option linter.unusedSimpArgs false
set_option maxRecDepth 20000
namespace Go.Bvm.JN
open Go.Bvm
namespace P
theorem begin_q (x:St) (deep:Bool) (I:PI x):PI (begin_ x deep)∧(begin_ x deep).i=x.i∧(begin_ x deep).s=x.s∧(begin_ x deep).l=x.l∧(begin_ x deep).begun=x.begun+1∧(begin_ x deep).depth=x.depth:=by
 obtain ⟨i0,i1,s1⟩:=I
 unfold begin_ bad
 split
 ·split <;> exact ⟨⟨i0,i1,s1⟩,rfl,rfl,rfl,rfl,rfl⟩
 ·exact ⟨⟨i0,i1,s1⟩,rfl,rfl,rfl,rfl,rfl⟩
theorem begin_e {x:St} {deep:Bool} (h:(begin_ x deep).e=0):x.e=0∧¬ 300≤x.begun∧¬ (deep=true∧8≤x.depth):=by
 unfold begin_ at h
 dsimp only at h
 split at h
 ·exact absurd h (bad_e (by decide))
 ·rename_i q;exact ⟨h,fun k=>q (.inl k),fun k=>q (.inr k)⟩
structure GB (u:Nat) (x x':St):Prop where
 g:G u x x'
 l0:x'.e=0→(x'.l.length:Int)+1≤x.l.length+30*(x'.i-x.i)
 i:x'.e=0→x.i<x'.i
theorem leaf_g {x r:St} {deep:Bool} (I:PI x) (q:Q (begin_ x deep) r) (h:r.e=0→(begin_ x deep).e=0∧x.i<r.i):GB 1 x r:=by
 obtain ⟨_,b1,b2,b3,b4,b5⟩:=begin_q x deep I
 have hge:=q.ge
 rw [b1] at hge
 have hl:=q.l;have hb:=q.b
 rw [b3] at hl;rw [b4] at hb
 refine ⟨⟨q.pi,hge,q.s.trans b2,q.d.trans b5,by omega,by rw [hl];omega,fun e=>by rw [hl];omega,by omega,fun e=>by have:=(h e).2;omega,fun e=>(begin_e (h e).1).1⟩,fun e=>by rw [hl];have:=(h e).2;omega,fun e=>(h e).2⟩
theorem err_see {x:St} (h:x.e≠0):see x=0:=by unfold see;rw [if_pos h]
theorem err_blanks {x:St} (h:x.e≠0):blanks x=x:=by unfold blanks;rw [if_pos h]
theorem err_bad {x:St} {e a:Int} (h:x.e≠0):bad x e a=x:=by unfold bad;rw [if_neg h]
theorem err_take {x:St} {y:UInt8} (hy:y≠0) (h:x.e≠0):take x y=x:=by
 unfold take;rw [err_see h,if_pos (Ne.symm hy),err_bad h]
theorem err_list {val:VF} {x:St} (h:x.e≠0):list val x=([],x):=by
 unfold list
 have e:listL val 4000 (blanks x) []=(x,[]):=by
  rw [err_blanks h]
  show (if x.e=0∧_ then _ else (x,[]))=_
  rw [if_neg fun k=>h k.1]
 rw [e];dsimp only;rw [err_take (by decide) h]
theorem err_pairs {val:VF} {x:St} (h:x.e≠0):pairs val x=(([],[]),x):=by
 unfold pairs
 have e:pairsL val 4000 (blanks x) [] []=(x,[],[]):=by
  rw [err_blanks h]
  show (if x.e=0∧_ then _ else (x,[],[]))=_
  rw [if_neg fun k=>h k.1]
 rw [e];dsimp only;rw [err_take (by decide) h]
theorem open_q (x:St) (c:UInt8) (hc:c≠0) (I:PI x):PI (open_ x c)∧x.i≤(open_ x c).i∧(open_ x c).s=x.s∧(open_ x c).l=x.l∧(open_ x c).begun=x.begun+1∧(open_ x c).depth=x.depth+1∧((open_ x c).e=0→x.e=0∧(open_ x c).i=x.i+1∧¬ 300≤x.begun∧x.depth<8):=by
 obtain ⟨b0,b1,b2,b3,b4,b5⟩:=begin_q x true I
 have q:=take_q (begin_ x true) c hc b0
 have hge:=q.ge
 rw [b1] at hge
 refine ⟨⟨q.pi.i0,q.pi.i1,q.pi.s1⟩,hge,q.s.trans b2,q.l.trans b3,q.b.trans b4,by show (take (begin_ x true) c).depth+1=_;rw [q.d,b5],fun h=>?_⟩
 have h1:=take_e (x:=begin_ x true) (y:=c) h
 have h2:=begin_e h1.1
 refine ⟨h2.1,?_,h2.2.1,?_⟩
 ·show (take (begin_ x true) c).i=_
  rw [(h1.2 hc).1,b1]
 ·have:=h2.2.2
  simp at this;omega
theorem nested_g {f:Nat} {val:VF} (V:VB f val) (x:St) (c:UInt8) (hc:c≠0) (b:Bd x) (hf:x.e=0→9≤f+1+x.depth):GB (2*f+3) x (nested val x c).2:=by
 obtain ⟨o1,o2,o3,o4,o5,o6,o7⟩:=open_q x c hc b.pi
 have key:∀ r:St,((open_ x c).e=0→G (2*f+2) (open_ x c) r)→((open_ x c).e≠0→r=open_ x c)→GB (2*f+3) x { r with depth:=r.depth-1 }:=by
  intro r h1 h2
  by_cases he:(open_ x c).e=0
  ·have g:=h1 he
   obtain ⟨p1,p2,p3,p4⟩:=o7 he
   have g1:=g.l1;have g2:=g.b1;have g3:=g.ge;have g4:=g.b
   rw [o4] at g1;rw [o5] at g2 g4
   refine ⟨⟨⟨g.pi.i0,g.pi.i1,g.pi.s1⟩,by show x.i≤r.i;omega,g.s.trans o3,by show r.depth-1=_;rw [g.d,o6];omega,by show x.begun≤r.begun;omega,by show (r.l.length:Int)≤x.l.length+30*(r.i-x.i)+((2*f+3:Nat):Int);omega,fun e=>?_,by show r.begun≤x.begun+30*(r.i-x.i)+((2*f+3:Nat):Int);omega,fun e=>?_,fun _=>p1⟩,fun e=>?_,fun e=>by show x.i<r.i;omega⟩
   ·have:=g.l0 e;rw [o4] at this;show (r.l.length:Int)≤x.l.length+30*(r.i-x.i);omega
   ·have:=g.b0 e;rw [o5] at this;show r.begun≤x.begun+30*(r.i-x.i);omega
   ·have:=g.l0 e;rw [o4] at this;show (r.l.length:Int)+1≤x.l.length+30*(r.i-x.i);omega
  ·rw [h2 he]
   exact ⟨⟨⟨o1.i0,o1.i1,o1.s1⟩,o2,o3,by show (open_ x c).depth-1=_;rw [o6];omega,by show x.begun≤(open_ x c).begun;omega,by show ((open_ x c).l.length:Int)≤x.l.length+30*((open_ x c).i-x.i)+((2*f+3:Nat):Int);rw [o4];omega,fun e=>absurd e he,by show (open_ x c).begun≤x.begun+30*((open_ x c).i-x.i)+((2*f+3:Nat):Int);omega,fun e=>absurd e he,fun e=>absurd e he⟩,fun e=>absurd e he,fun e=>absurd e he⟩
 have bo:(open_ x c).e=0→Bd (open_ x c):=fun he=>by
  obtain ⟨p1,p2,p3,p4⟩:=o7 he
  exact ⟨o1,by rw [o4,o3];have:=b.l;omega,by have:=b.b0;omega,fun _=>by rw [o3];have:=b.b p1;omega,by have:=b.b p1;have:=b.pi.i1;omega,by have:=b.d0;omega,fun _=>by omega⟩
 have ho:(open_ x c).e=0→9≤f+(open_ x c).depth:=fun he=>by have:=hf (o7 he).1;omega
 unfold nested
 split
 ·exact key _ (fun he=>list_g V _ (bo he) ho) fun he=>by rw [err_list he]
 ·exact key _ (fun he=>pairs_g V _ (bo he) ho) fun he=>by rw [err_pairs he]
theorem wordOf_0 (c:UInt8):(∀ y∈wordOf c,y≠0)∧0<(wordOf c).length∧(wordOf c).length≤5:=by
 unfold wordOf
 split
 ·simp
 ·split <;> simp
theorem body_g {f:Nat} {val:VF} (V:VB f val) (x:St) (b:Bd x) (hf:x.e=0→9≤f+1+x.depth):GB (2*f+3) x (body val x).2:=by
 have up:∀ {r:St},GB 1 x r→GB (2*f+3) x r:=fun g=>⟨g.g.mono (by omega),g.l0,g.i⟩
 obtain ⟨c0,c1,_⟩:=begin_q x false b.pi
 unfold body
 dsimp only
 split
 ·rename_i h
  exact nested_g V x _ (by rcases h with e | e <;> (rw [e];decide)) b hf
 ·split
  ·exact up (leaf_g b.pi (text_q _ c0).1 fun e=>by have:=text_e e;rw [c1] at this;exact this)
  ·split
   ·exact up (leaf_g b.pi (number_q _ c0) fun e=>by have:=number_e e;rw [c1] at this;exact this)
   ·split
    ·obtain ⟨w0,w1,_⟩:=wordOf_0 (see x)
     exact up (leaf_g b.pi (literal_q _ _ w0 c0) fun e=>⟨literal_e _ _ e,by rw [literal_i _ _ w0 e,c1];omega⟩)
    ·have q:=bad_q x 4 x.i b.pi
     exact ⟨(q.g fun e=>absurd e (bad_e (by decide))).mono (by omega),fun e=>absurd e (bad_e (by decide)),fun e=>absurd e (bad_e (by decide))⟩
theorem value_g:∀ f,VB f (value f)
 | 0,x,b,h0,h1=>by
  by_cases e:x.e=0
  ·have:=h0 e;have:=b.d e;omega
  ·have:=h1 e;omega
 | f+1,x,b,h0,h1=>by
  have q0:=blanks_q x b.pi
  have g:=body_g (value_g f) (blanks x) (b.q q0 (by rw [blanks_e];exact id)) (by rw [blanks_e,q0.d];intro e;have:=h0 e;omega)
  have g1:=g.g.l1;have g2:=g.g.b1;have g3:=g.g.ge;have g4:=g.g.b
  have q1:=q0.ge
  rw [q0.l] at g1;rw [q0.b] at g2 g4
  have hb:=b.l
  have hi:=g.g.pi.i1
  rw [g.g.s,q0.s] at hi
  unfold value
  dsimp only
  refine ⟨⟨⟨g.g.pi.i0,g.g.pi.i1,g.g.pi.s1⟩,by show x.i≤(body (value f) (blanks x)).2.i;omega,g.g.s.trans q0.s,g.g.d.trans q0.d,by show x.begun≤_;exact g4,?_,fun e=>?_,?_,fun e=>?_,fun e=>?_⟩,fun e1 e=>?_,by omega,by show ((body (value f) (blanks x)).2.l.length:Int)<(((body (value f) (blanks x)).2.l++[(body (value f) (blanks x)).1]).length:Int);rw [List.length_append];simp only [List.length_cons,List.length_nil];omega⟩
  ·show (((body (value f) (blanks x)).2.l++[_]).length:Int)≤_
   rw [List.length_append]
   simp only [List.length_cons,List.length_nil]
   show _≤_+30*((body (value f) (blanks x)).2.i-x.i)+_
   omega
  ·show (((body (value f) (blanks x)).2.l++[_]).length:Int)≤_
   rw [List.length_append]
   simp only [List.length_cons,List.length_nil]
   have:=g.l0 e
   rw [q0.l] at this
   show _≤_+30*((body (value f) (blanks x)).2.i-x.i)
   omega
  ·show (body (value f) (blanks x)).2.begun≤x.begun+30*((body (value f) (blanks x)).2.i-x.i)+_
   omega
  ·have:=g.g.b0 e
   rw [q0.b] at this
   show (body (value f) (blanks x)).2.begun≤x.begun+30*((body (value f) (blanks x)).2.i-x.i)
   omega
  ·have:=g.g.e e
   rwa [blanks_e] at this
  ·have:=g.i e
   show x.i<(body (value f) (blanks x)).2.i
   omega
end P
end Go.Bvm.JN
set_option linter.unusedVariables false
set_option linter.unusedSimpArgs false
set_option maxRecDepth 20000
namespace Go.Bvm.JN
open Go.Bvm
section
variable {W:List Nat} {c:Nat} {h:H} {p:Nat} {x:St} {k:KV} {n:Nat} (O:json_parserO W c h p x)
include O
end
end Go.Bvm.JN
set_option linter.unusedVariables false
set_option linter.unusedSimpArgs false
set_option maxRecDepth 20000
namespace Go.Bvm.JN
open Go.Bvm
end Go.Bvm.JN
set_option linter.unusedVariables false
set_option linter.unusedSimpArgs false
set_option maxRecDepth 20000
namespace Go.Bvm.JN
open Go.Bvm
theorem repJ {W:List Nat} {h:H} {a b:Int} {s:Str} {ks:List Str} {ps:List Int} {u v:V} (ha:inR a) (hb:inR b) (hs:s.length≤maxB) (U:SlO W 0 h u ks) (V:SlO W 0 h v ps):Enc.rep W h [wz a,wz b,vs s,u,v] (⟨a,b,s,ks,ps⟩ : api_Json):=⟨u,v,rfl,ha,hb,hs,U,V⟩
end Go.Bvm.JN
set_option linter.unusedVariables false
set_option linter.unusedSimpArgs false
set_option maxRecDepth 20000
namespace Go.Bvm.JN
open Go.Bvm
end Go.Bvm.JN
set_option linter.unusedVariables false
set_option linter.unusedSimpArgs false
set_option maxRecDepth 20000
namespace Go.Bvm.JN
open Go.Bvm
namespace P
def init (s:Str):St:=⟨s,0,[],0,0,0,0⟩
def last (x:St):St:=if x.i<x.s.length then bad x 4 x.i else x
def fin (s:Str):St:=last (blanks (value 9 (init s)).2)
def Read (s:Str):List api_Json×Int×Int:=if 3000<s.length then ([],0,2) else if (fin s).e≠0 then ([],(fin s).at_,(fin s).e) else ((fin s).l,0,0)
end P
noncomputable abbrev tup3 (v:V) (a e:Int):V:=.x .tup (vl [v,wz a,wz e]) V.nil
end Go.Bvm.JN
