/- The abstract machine: code, functions, laws. Conditions: stated in each theorem. -/
import Derived.Test.YtacpnpdggbfkgaaDoorBvm3
import Derived.ProofKit
import Derived.Laws.Externs
import Derived.Lib.Builder
import Derived.Lib.MakeNoZero
import Derived.LaidLaws
import Derived.LaidHandle
import Derived.SevenTiedAt
import Derived.JoinedOf
import Derived.KernelRfl
import Derived.StillTailTactics
import Derived.OrdersIn
import Derived.RangeFuncCalls
set_option linter.unusedVariables false
set_option linter.unusedSimpArgs false
set_option linter.unusedVariables false
namespace Go.Bvm
variable {P:Program} {G:Nat→Bool} {N:Fr}
theorem goR_ok {cf:CallF} (hcf:CallS P G cf) {ops:Array Oper} {i:Nat} {ρ:TL} {e:L8} {h:H} {k:KV} (hm:goR P G cf N ops i ρ e h k=true) {φ:Phi} {w:World} {a:Act} (hg:GlobOk P G φ) (r:RE φ N ρ e a) (R:Rel φ h w) (rest:List Nat) (Q:Exit→Act→World→Prop)
  (hnext:∀ c w',FPost k φ h w c w'→wpOps P ops Q rest (a.put (dstR ops i) c) w'):wpOps P ops Q (i::rest) a w:=by
 unfold goR at hm
 simp only [wpOps]
 cases ho:ops[i]? with
 | none=>rw [ho] at hm;simp at hm
 | some o=>
  rw [ho] at hm
  have hdst:dstR ops i=o.dst:=by unfold dstR;rw [ho]
  rw [hdst] at hnext
  simp only at hm ⊢
  cases hgd:o.guard with
  | none=>
   rw [hgd] at hm
   rw [if_pos (by simp [Region.wanted,hgd])]
   exact .inl ((vop_ok hcf o hm hg (eval_func a) (opr_ok hg r) R).wp hnext)
  | some jb=>
   obtain ⟨j,b⟩:=jb
   rw [hgd] at hm
   simp only at hm
   cases hq:ops[j]? with
   | none=>rw [hq] at hm;simp at hm
   | some q=>
    rw [hq] at hm
    simp only at hm
    cases hqd:q.dst with
    | none=>rw [hqd] at hm;simp at hm
    | some g=>
     rw [hqd] at hm
     simp only at hm
     by_cases hgN:g<N.n
     case neg=>rw [if_neg hgN] at hm;simp at hm
     rw [if_pos hgN] at hm
     obtain ⟨v,hv,rv,_⟩:=r.at_ g hgN
     have hy:=yielded_of (ops:=ops) hq hqd hv
     have yes:v=.bool b→vop P cf (opr P G N ρ e) o.op h k=true→(if Region.wanted o (yielded ops a.tmps)=true then o.wp P a w (wpOps P ops Q rest) Q∨o.asks P a w∧LetsOut Q else wpOps P ops Q rest (a.put o.dst undef) w):=fun hvb hk=>by
      rw [if_pos (by unfold Region.wanted;rw [hgd];show (yielded ops a.tmps j == some b)=true;rw [hy,hvb];simp [boolOf])]
      exact .inl ((vop_ok hcf o hk hg (eval_func a) (opr_ok hg r) R).wp hnext)
     have no:(∀ t,v=.bool t→t=!b)→k V.u h=true→(if Region.wanted o (yielded ops a.tmps)=true then o.wp P a w (wpOps P ops Q rest) Q∨o.asks P a w∧LetsOut Q else wpOps P ops Q rest (a.put o.dst undef) w):=fun hne hk=>by
      have:Region.wanted o (yielded ops a.tmps)=false:=by
       unfold Region.wanted
       rw [hgd]
       show (yielded ops a.tmps j == some b)=false
       rw [hy]
       cases v with
       | bool z=>
        have:=hne z rfl
        subst this
        cases b <;> rfl
       | _=>rfl
      rw [if_neg (by rw [this];simp)]
      exact hnext undef w ⟨V.u,h,φ,hk,.undef,R,.refl _ _ _⟩
     cases b with
     | true=>
      rw [if_pos rfl] at hm
      rcases guardT_true hm with ⟨e1,hk⟩ | ⟨e1 | ⟨_,_,e1⟩,hk⟩
      ·rw [e1] at rv;exact yes rv.inv_t hk
      ·rw [e1] at rv;exact no (fun t ht=>by rw [rv.inv_t] at ht;cases ht;rfl) hk
      ·rw [e1] at rv;cases rv;exact no (fun t ht=>by simp at ht) hk
     | false=>
      rw [if_neg (by simp)] at hm
      rcases guardF_true hm with ⟨e1,hk⟩ | ⟨e1 | ⟨_,_,e1⟩,hk⟩
      ·rw [e1] at rv;exact yes rv.inv_t hk
      ·rw [e1] at rv;exact no (fun t ht=>by rw [rv.inv_t] at ht;cases ht;rfl) hk
      ·rw [e1] at rv;cases rv;exact no (fun t ht=>by simp at ht) hk
theorem runR_ok {cf:CallF} (hcf:CallS P G cf) {ops:Array Oper} (Q:Exit→Act→World→Prop):∀ (l:List Nat) {ρ:TL} {e:L8} {h:H} {K:KT},runR P G cf N ops l ρ e h K=true→∀ {φ:Phi} {w:World} {a:Act},GlobOk P G φ→RE φ N ρ e a→Rel φ h w→
  (∀ ρ' e' h' φ' a' w',K ρ' e' h'=true→RE φ' N ρ' e' a'→Rel φ' h' w'→Ext φ h w φ' h' w'→a'.defers=a.defers→Q .normal a' w')→wpOps P ops Q l a w
 | [],ρ,e,h,K,hm,φ,w,a,hg,r,R,hQ=>hQ ρ e h φ a w hm r R (.refl _ _ _) rfl
 | i::rest,ρ,e,h,K,hm,φ,w,a,hg,r,R,hQ=>goR_ok hcf hm hg r R rest Q fun c w' ⟨v,h',φ',hk,rv,R',X⟩=>by
   obtain ⟨ρ',e',hk',r'⟩:=(r.mono X.le).put hk rv
   refine runR_ok hcf Q rest hk' (hg.mono X.le) r' R' fun ρ2 e2 h2 φ2 a2 w2 hk2 r2 R2 X2 hd2=>hQ ρ2 e2 h2 φ2 a2 w2 hk2 r2 R2 (X.trans X2) (hd2.trans ?_)
   cases dstR ops i <;> rfl
def xr:X→Exit→Prop
 | .n,.normal=>True
 | .x i,.exit j=>i=j
 | .r,.ret=>True
 | _,_=>False
def PostK (N:Fr) (K:KX) (φ:Phi) (h:H) (w:World) (d:List Deferred):Exit→Act→World→Prop:=fun x a' w'=>
 ∃ y e' h' φ',xr y x∧K y e' h'=true∧RE φ' N .n e' a'∧Rel φ' h' w'∧Ext φ h w φ' h' w'∧a'.defers=d
def CodeS (P:Program) (G:Nat→Bool) (N:Fr) (ρ:TL) (c:Code) (m:M):Prop:=∀ e h K,m e h K=true→∀ φ w a,GlobOk P G φ→RE φ N ρ e a→Rel φ h w→c.wp P (PostK N K φ h w a.defers) a w
theorem noM_ok {c:Code} {ρ:TL}:CodeS P G N ρ c (fun _ _ _=>false):=fun e h K hm=>by simp at hm
theorem seqM_ok {x y:Code} {m n:M} {ρ:TL} (hx:CodeS P G N ρ x m) (hy:CodeS P G N .n y n):CodeS P G N ρ (.seq x y) (seqM m n):=by
 intro e h K hm φ w a hg r R
 refine wp_seq (wp_mono (hx e h _ hm φ w a hg r R) ?_)
 rintro ex a' w' ⟨z,e',h',φ',hz,hK,r',R',X,hd⟩
 cases z with
 | n=>
  cases ex <;> simp [xr] at hz
  refine wp_mono (hy e' h' K hK φ' w' a' (hg.mono X.le) r' R') ?_
  rintro ex2 a2 w2 ⟨z2,e2,h2,φ2,hz2,hK2,r2,R2,X2,hd2⟩
  exact ⟨z2,e2,h2,φ2,hz2,hK2,r2,R2,X.trans X2,hd2.trans hd⟩
 | x i=>
  cases ex <;> simp [xr] at hz
  subst hz
  exact ⟨.x i,e',h',φ',rfl,hK,r',R',X,hd⟩
 | r=>
  cases ex <;> simp [xr] at hz
  exact ⟨.r,e',h',φ',trivial,hK,r',R',X,hd⟩
theorem condV_ok {c:Operand} {q:V} {x y:Code} {m n:M} {ρ:TL} {e:L8} {h:H} {K:KX} (hm:condV q (m e h K) (n e h K)=true) {φ:Phi} {w:World} {a:Act} (hc:opr P G N ρ e c=some q) (hg:GlobOk P G φ) (r:RE φ N ρ e a) (R:Rel φ h w) (hx:CodeS P G N ρ x m) (hy:CodeS P G N ρ y n):(Code.cond c x y).wp P (PostK N K φ h w a.defers) a w:=by
 have rc:=opr_ok hg r _ _ hc
 cases q <;> first | exact Bool.noConfusion (show false=true from hm) | skip
 rename_i t
 have rc:=rc.inv_t
 cases t with
 | true=>exact wp_cond_true rc (hx e h K hm φ w a hg r R)
 | false=>exact wp_cond_false rc (hy e h K hm φ w a hg r R)
theorem blockM_ok {i:Nat} {x:Code} {m:M} {ρ:TL} (hx:CodeS P G N ρ x m):CodeS P G N ρ (.block i x) (blockM i m):=by
 intro e h K hm φ w a hg r R
 refine wp_block (wp_mono (hx e h _ hm φ w a hg r R) ?_)
 rintro ex a' w' ⟨z,e',h',φ',hz,hK,r',R',X,hd⟩
 cases z with
 | n=>cases ex <;> simp [xr] at hz;exact ⟨.n,e',h',φ',trivial,hK,r',R',X,hd⟩
 | r=>cases ex <;> simp [xr] at hz;exact ⟨.r,e',h',φ',trivial,hK,r',R',X,hd⟩
 | x j=>
  cases ex <;> simp [xr] at hz
  subst hz
  have hK:K (bs (Nat.beq j i) .n (.x j)) e' h'=true:=hK
  simp only [Exit.inBlock]
  by_cases q:j=i
  ·subst q
   rw [if_pos rfl]
   rw [Nat.beq_refl] at hK
   exact ⟨.n,e',h',φ',trivial,hK,r',R',X,hd⟩
  ·rw [if_neg q]
   have:Nat.beq j i=false:=by rw [← Bool.not_eq_true];intro z;exact q (Nat.eq_of_beq_eq_true z)
   rw [this] at hK
   exact ⟨.x j,e',h',φ',rfl,hK,r',R',X,hd⟩
theorem loopM_ok {lf:Nat} {x:Code} {m:M} {ρ:TL} (hx:CodeS P G N .n x m):CodeS P G N ρ (.loop x) (loopM lf m):=by
 intro e h K hm φ w a hg r R b k cs
 have key:∀ n e h,loopM n m e h K=true→∀ φ w a,GlobOk P G φ→RE φ N .n e a→Rel φ h w→∃ ex a' w',PostK N K φ h w a.defers ex a' w'∧Arrives P (lone (b.at a (.code x::.inLoop x::k)) cs w) b k cs ex a' w':=by
  intro n
  induction n with
  | zero=>intro e h hm;exact Bool.noConfusion (show false=true from hm)
  | succ n ih=>
   intro e h hm φ w a hg r R
   obtain ⟨ex,a1,w1,⟨z,e',h',φ',hz,hK,r',R',X,hd⟩,harr⟩:=hx e h _ hm φ w a hg r R b (.inLoop x::k) cs
   cases z with
   | n=>
    cases ex <;> simp [xr] at hz
    obtain ⟨ex2,a2,w2,⟨z2,e2,h2,φ2,hz2,hK2,r2,R2,X2,hd2⟩,harr2⟩:=ih e' h' hK φ' w1 a1 (hg.mono X.le) r' R'
    exact ⟨ex2,a2,w2,⟨z2,e2,h2,φ2,hz2,hK2,r2,R2,X.trans X2,hd2.trans hd⟩,.of_steps (Steps.trans harr (.one step_inLoop)) harr2⟩
   | x i=>
    cases ex <;> simp [xr] at hz
    subst hz
    exact ⟨.exit i,a1,w1,⟨.x i,e',h',φ',rfl,hK,r',R',X,hd⟩,.pass (x:=.inLoop x) rfl (fun _ _=>.inl (by simp)) harr⟩
   | r=>
    cases ex <;> simp [xr] at hz
    exact ⟨.ret,a1,w1,⟨.r,e',h',φ',trivial,hK,r',R',X,hd⟩,.pass (x:=.inLoop x) rfl (fun _ _=>.inl (by simp)) harr⟩
 obtain ⟨ex,a',w',hp,harr⟩:=key lf e h hm φ w a hg r.drop R
 exact ⟨ex,a',w',hp,.of_steps (.one step_loop) harr⟩
theorem regR_ok (hmix:P.follows .mixedOrders=true) {cf:CallF} (hcf:CallS P G cf) (hr:CallRet cf) (hfr:∀ r,CallFrm r cf) {c:Code} (hchk:chkC P N c=true) {f:TL→L8→H→KT→Bool} (hf:regR P G cf N c=some f) {ρ:TL} {e:L8} {h:H} {K:KT} (hm:f ρ e h K=true) {φ:Phi} {w:World} {a:Act} (hg:GlobOk P G φ) (r:RE φ N ρ e a) (R:Rel φ h w) (Q:Exit→Act→World→Prop)
  (hQ:∀ ρ' e' h' φ' a' w',K ρ' e' h'=true→RE φ' N ρ' e' a'→Rel φ' h' w'→Ext φ h w φ' h' w'→a'.defers=a.defers→Q .normal a' w'):c.wp P Q a w:=by
 cases c <;> try (simp [regR] at hf;done)
 rename_i i ops d
 cases d
 ·simp only [regR,Option.some.injEq] at hf
  subst hf
  exact wp_region (runR_ok hcf Q _ hm hg r R hQ)
 ·simp only [regR] at hf
  split at hf
  ·rename_i n l ho
   split at hf
   ·rename_i hok
    simp only [Option.some.injEq] at hf
    subst hf
    have hchk:chkR P ops l=true:=by
     unfold chkC at hchk
     rw [ho] at hchk;exact hchk
    exact draw_ok hmix hcf hr hfr hchk hok hm hg r R Q hQ
   ·simp at hf
  ·simp at hf
theorem exec_ok (hmix:P.follows .mixedOrders=true) {cf:CallF} (hcf:CallS P G cf) (hr:CallRet cf) (hfr:∀ r,CallFrm r cf) (lf:Nat):∀ (c:Code) (ρ:TL),chkC P N c=true→CodeS P G N ρ c (exec P G cf lf N c ρ)
 | .skip,ρ,hc=>fun e h K hm φ w a hg r R=>wp_skip ⟨.n,e,h,φ,trivial,hm,r.drop,R,.refl _ _ _,rfl⟩
 | .region i ops d,ρ,hc=>by
  rw [exec_region]
  split
  ·rename_i f hf
   exact fun e h K hm φ w a hg r R=>regR_ok hmix hcf hr hfr hc hf hm hg r R _ fun ρ' e' h' φ' a' w' hk r' R' X hd=>⟨.n,e',h',φ',trivial,hk,r'.drop,R',X,hd⟩
  ·exact noM_ok
 | .seq a b,ρ,hc=>by
  have hc:=Bool.and_eq_true_iff.1 (show (chkC P N a && chkC P N b)=true from hc)
  rw [exec_seq]
  split
  ·rename_i f hf
   intro e h K hm φ w ac hg r R
   refine wp_seq (regR_ok hmix hcf hr hfr hc.1 hf hm hg r R _ ?_)
   intro ρ' e' h' φ' a' w' hk r' R' X hd
   refine wp_mono (exec_ok hmix hcf hr hfr lf b ρ' hc.2 e' h' K hk φ' w' a' (hg.mono X.le) r' R') ?_
   rintro ex2 a2 w2 ⟨z2,e2,h2,φ2,hz2,hK2,r2,R2,X2,hd2⟩
   exact ⟨z2,e2,h2,φ2,hz2,hK2,r2,R2,X.trans X2,hd2.trans hd⟩
  ·exact seqM_ok (exec_ok hmix hcf hr hfr lf a ρ hc.1) (exec_ok hmix hcf hr hfr lf b .n hc.2)
 | .cond c a b,ρ,hc=>by
  have hc:=Bool.and_eq_true_iff.1 (show (chkC P N a && chkC P N b)=true from hc)
  rw [exec_cond]
  intro e h K hm φ w ac hg r R
  dsimp only at hm
  split at hm
  ·rename_i hc1;exact condV_ok hm hc1 hg r R (exec_ok hmix hcf hr hfr lf a ρ hc.1) (exec_ok hmix hcf hr hfr lf b ρ hc.2)
  ·simp at hm
 | .block i a,ρ,hc=>blockM_ok (exec_ok hmix hcf hr hfr lf a ρ hc)
 | .loop a,ρ,hc=>loopM_ok (exec_ok hmix hcf hr hfr lf a .n hc)
 | .exit i,ρ,hc=>fun e h K hm φ w a hg r R=>wp_exit ⟨.x i,e,h,φ,rfl,hm,r.drop,R,.refl _ _ _,rfl⟩
 | .ret,ρ,hc=>fun e h K hm φ w a hg r R=>wp_ret ⟨.r,e,h,φ,trivial,hm,r.drop,R,.refl _ _ _,rfl⟩
 | .rangeFunc ..,ρ,hc=>noM_ok
 | .scope _,ρ,hc=>noM_ok
 | .label _,ρ,hc=>noM_ok
 | .goto _,ρ,hc=>noM_ok
 | .refuse _,ρ,hc=>noM_ok
end Go.Bvm
set_option linter.unusedVariables false
namespace Go.Bvm
variable {P:Program} {G:Nat→Bool} {LF:Nat→List Nat} {OF:Nat→Nat→Option (Nat×List Od)} {cf:CallF} {lf:Nat}
theorem getT_c (N:Fr) (t u:Nat) (v:V) (r:TL) (e:L8):getT N t (.c u v r) e=if u=t then v else getT N t r e:=rfl
theorem argsK_ok {φ:Phi} {N:Fr} (hN:N.l.length≤64):∀ (n i:Nat) (ρ:TL) (e:L8) (l:V) (cs:List Value) (k:TL→L8→Bool),argsK N n i ρ e l k=true→RL φ l cs→
  cs.length=n∧∃ ρ' e',k ρ' e'=true∧(∀ t,t<i∨i+n≤t→getT N t ρ' e'=getT N t ρ e∧getT N t .n e'=getT N t .n e)∧∀ (j:Nat) c,cs[j]?=some c→RV φ (getT N (i+j) ρ' e') c∧RV φ (getT N (i+j) .n e') c
 | 0,i,ρ,e,l,cs,k,h,r=>by
  obtain ⟨a,b,rfl,hk⟩:=onNil_true h
  cases r
  exact ⟨rfl,ρ,e,hk,fun t _=>⟨rfl,rfl⟩,fun j c hj=>by simp at hj⟩
 | n+1,i,ρ,e,l,cs,k,h,r=>by
  obtain ⟨a,b,rfl,hk⟩:=onCons_true h
  cases r with
  | cons ha hb=>
   rename_i v rest
   have key:∀ e1:L8,(∀ t,t≠i→∀ ρ,getT N t ρ e1=getT N t ρ e)→RV φ (getT N i .n e1) v→argsK N n (i+1) (.c i a ρ) e1 b k=true→
     (v::rest).length=n+1∧∃ ρ' e',k ρ' e'=true∧(∀ t,t<i∨i+(n+1)≤t→getT N t ρ' e'=getT N t ρ e∧getT N t .n e'=getT N t .n e)∧∀ (j:Nat) c,(v::rest)[j]?=some c→RV φ (getT N (i+j) ρ' e') c∧RV φ (getT N (i+j) .n e') c:=by
    intro e1 hne hv hk1
    obtain ⟨h1,ρ',e',h2,h3,h4⟩:=argsK_ok hN n (i+1) _ e1 b rest k hk1 hb
    refine ⟨by simp [h1],ρ',e',h2,fun t ht=>?_,fun j c hj=>?_⟩
    ·obtain ⟨g1,g2⟩:=h3 t (by omega)
     rw [g1,g2,getT_c,if_neg (by omega)]
     exact ⟨hne t (by omega) _,hne t (by omega) _⟩
    ·cases j with
     | zero=>
      simp at hj;subst hj
      obtain ⟨g1,g2⟩:=h3 i (by omega)
      rw [Nat.add_zero,g1,g2,getT_c,if_pos rfl]
      exact ⟨ha,hv⟩
     | succ j=>
      have:=h4 j c (by simpa using hj)
      rw [show i+(j+1)=i+1+j from by omega];exact this
   split at hk
   ·rename_i j hj
    have hj64:=idx_lt _ _ _ hj
    refine key _ (fun t ht ρ=>getT_upd N i a j hN hj t e ρ ht) ?_ hk
    unfold getT
    rw [hj];simp only
    rw [getL_updL _ _ _ _ (by omega) (by omega),if_pos rfl];exact ha
   ·rename_i hj
    refine key _ (fun t ht ρ=>rfl) ?_ hk
    unfold getT
    rw [hj];exact .any
def resSem (tmps:Array Value):ResultVar→Sem Value
 | .tmp t=>pure (tmps.getD t undef)
 | .cell c t=>do loadVar t (← asAddr (tmps.getD c undef))
theorem results_eq (fn:Func) (tmps:Array Value):results fn tmps=(do let vs ← fn.results.mapM (resSem tmps);pure (if h:vs.size=1 then vs[0] else .tuple vs)):=by
 unfold results
 have:(fun | .tmp t=>pure (tmps.getD t undef) | .cell a t=>do loadVar t (← asAddr (tmps.getD a undef)):ResultVar→Sem Value)=resSem tmps:=by funext x;cases x <;> rfl
 rw [← this];rfl
theorem ldV_ok {φ:Phi} {t:TypeId} {a:V} {h:H} {k:V→Bool} (hm:ldV P t a h k=true) (ht:hasT P t=true) {c:Value} {w:World} (rc:RV φ a c) (R:Rel φ h w):∃ L cv v,c=.pointer (some L)∧(loadVar t L).run P w=.ok cv w∧RV φ v cv∧k v=true:=by
 obtain ⟨d,hd⟩:=hasT_under ht
 obtain ⟨i,hi⟩:=under_info hd
 unfold ldV at hm
 cases hone:oneT P t with
 | true=>
  rw [hone,if_pos rfl] at hm
  obtain ⟨id,off,lim,ver,e1,h2⟩:=onP_true hm
  obtain ⟨cc,size,bver,frz,elem,ex,own,e2,h3⟩:=onBk_true h2
  obtain ⟨h4,h5⟩:=both_true h3
  obtain rfl:=beq_true h4
  rw [e1] at rc
  obtain ⟨l,e3,hl,e4⟩:=rc.inv_p
  obtain ⟨h6,h7⟩:=both_true h5
  have h6:=ble_true h6
  obtain ⟨v,hv,rv,_⟩:=R.cell e3 e2 (i:=off) (by omega)
  refine ⟨_,v,_,e4,?_,rv,h7⟩
  unfold loadVar
  rw [Sem.run_bind,run_isAgg hd,hone]
  show (load _).run P w=_
  rw [run_load,hv]
 | false=>
  rw [hone,if_neg (by simp)] at hm
  obtain ⟨id,off,lim,ver,e1,h2⟩:=onP_true hm
  obtain ⟨cc,size,bver,frz,elem,ex,own,e2,h3⟩:=onBk_true h2
  obtain ⟨h4,h5⟩:=both_true h3
  obtain rfl:=beq_true h4
  rw [e1] at rc
  obtain ⟨l,e3,hl,e4⟩:=rc.inv_p
  obtain ⟨h6,h7⟩:=both_true h5
  have h6:=ble_true h6
  simp only [Nat.add_eq] at h6
  obtain ⟨q,q1,q2,q3,q4⟩:=cells_rel (φ:=φ) (w:=w) (c:=cc) (B:=l.B) (o:=l.base) (sizeT P t) off (fun j hj=>by
   rw [Nat.add_assoc];exact R.cell e3 e2 (i:=off+j) (by omega))
  refine ⟨_,.agg ⟨q⟩,_,e4,?_,.agg q2 q3,h7⟩
  unfold loadVar
  rw [Sem.run_bind,run_isAgg hd,hone]
  show (do pure (.agg (← loadCells ⟨l.B,l.base+off,none⟩ (← sizeOf t))):Sem Value).run P w=_
  rw [Sem.run_bind,run_size hi]
  simp only [Result.andThen_ok]
  rw [Sem.run_bind,← q1,run_loadCells_list w ⟨l.B,l.base+off,none⟩ q (fun j v hj=>by rw [add_addr];exact q4 j v hj)]
  rfl
theorem resL_ok {φ:Phi} {N:Fr} {e:L8} {a:Act} (r:RE φ N .n e a) {h:H} {w:World} (R:Rel φ h w):∀ (l:List ResultVar) (q:QF) (k:V→Bool),resL P N l=some q→q e h k=true→∃ (vs:List Value) (v:V),(l.mapM (resSem a.tmps)).run P w=.ok vs w∧RL φ v vs∧vs.length=l.length∧k v=true
 | [],q,k,hq,hm=>by simp only [resL,Option.some.injEq] at hq;subst hq;exact ⟨[],_,rfl,.nil,rfl,hm⟩
 | .cell c t::rest,q,k,hq,hm=>by
  simp only [resL] at hq
  split at hq
  ·rename_i ht
   split at hq
   ·rename_i q' hq'
    simp only [Option.some.injEq] at hq;subst hq
    obtain ⟨v,e1,e2,_⟩:=r.at_ c ht.1
    have hv:a.tmps.getD c undef=v:=by rw [Array.getD_eq_getD_getElem?,e1];rfl
    obtain ⟨L,cv,u,g1,g2,g3,g4⟩:=ldV_ok hm ht.2 e2 R
    obtain ⟨vs,z,h1,h2,h3,h4⟩:=resL_ok r R rest q' _ hq' g4
    refine ⟨cv::vs,_,?_,.cons g3 h2,by simp [h3],h4⟩
    rw [List.mapM_cons,Sem.run_bind]
    have:(resSem a.tmps (.cell c t)).run P w=.ok cv w:=by
     simp only [resSem,hv,g1]
     rw [Sem.run_bind]
     show (loadVar t L).run P w=_
     exact g2
    rw [this]
    simp only [Result.andThen_ok]
    rw [Sem.run_bind,h1];rfl
   ·simp at hq
  ·simp at hq
 | .tmp t::rest,q,k,hq,hm=>by
  simp only [resL] at hq
  split at hq
  ·rename_i ht
   split at hq
   ·rename_i q' hq'
    simp only [Option.some.injEq] at hq;subst hq
    obtain ⟨vs,z,h1,h2,h3,h4⟩:=resL_ok r R rest q' _ hq' hm
    obtain ⟨v,e1,e2,_⟩:=r.at_ t ht
    have hv:a.tmps.getD t undef=v:=by rw [Array.getD_eq_getD_getElem?,e1];rfl
    refine ⟨v::vs,_,?_,.cons e2 h2,by simp [h3],h4⟩
    rw [List.mapM_cons,Sem.run_bind]
    simp only [resSem,Sem.run_pure,Result.andThen_ok,hv]
    rw [Sem.run_bind,h1];rfl
   ·simp at hq
  ·simp at hq
theorem results_ok {φ:Phi} {N:Fr} {e:L8} {a:Act} (r:RE φ N .n e a) {h:H} {w:World} (R:Rel φ h w) {fn:Func} {q:QF} {k:V→Bool} (hq:resE P N fn.results.toList=some q) (hk:q e h k=true):∃ c v,(results fn a.tmps).run P w=.ok c w∧RV φ v c∧k v=true:=by
 have hm:∀ vs:List Value,(fn.results.toList.mapM (resSem a.tmps)).run P w=.ok vs w→
   (results fn a.tmps).run P w=.ok (if h:(⟨vs⟩ : Array Value).size=1 then (⟨vs⟩ : Array Value)[0] else .tuple ⟨vs⟩) w:=fun vs hvs=>by
  rw [results_eq,Sem.run_bind,Array.mapM_eq_mapM_toList,Sem.run_map,hvs]
  rfl
 unfold resE at hq
 split at hq
 ·rename_i t hl
  split at hq
  ·rename_i ht
   simp only [Option.some.injEq] at hq;subst hq
   obtain ⟨v,e1,e2,_⟩:=r.at_ t ht
   have hv:a.tmps.getD t undef=v:=by rw [Array.getD_eq_getD_getElem?,e1];rfl
   refine ⟨v,_,?_,e2,hk⟩
   rw [hm [v] (by rw [hl,List.mapM_cons,Sem.run_bind];simp [hv,resSem])]
   rfl
  ·simp at hq
 ·rename_i c t hl
  split at hq
  ·rename_i ht
   simp only [Option.some.injEq] at hq;subst hq
   obtain ⟨v,e1,e2,_⟩:=r.at_ c ht.1
   have hv:a.tmps.getD c undef=v:=by rw [Array.getD_eq_getD_getElem?,e1];rfl
   obtain ⟨L,cv,u,g1,g2,g3,g4⟩:=ldV_ok hk ht.2 e2 R
   have:(resSem a.tmps (.cell c t)).run P w=.ok cv w:=by
    simp only [resSem,hv,g1]
    rw [Sem.run_bind]
    show (loadVar t L).run P w=_
    exact g2
   refine ⟨cv,u,?_,g3,g4⟩
   rw [hm [cv] (by rw [hl,List.mapM_cons,Sem.run_bind,this];rfl)]
   rfl
  ·simp at hq
 ·rename_i hne hne2
  split at hq
  ·rename_i q' hq'
   simp only [Option.some.injEq] at hq;subst hq
   obtain ⟨vs,z,h1,h2,h3,h4⟩:=resL_ok (P:=P) r R _ q' _ hq' hk
   refine ⟨.tuple ⟨vs⟩,_,?_,.tup h2,h4⟩
   rw [hm vs h1]
   have:¬ (⟨vs⟩ : Array Value).size=1:=by
    intro hs
    have hs:vs.length=1:=hs
    rw [h3] at hs
    cases hl:fn.results.toList with
    | nil=>rw [hl] at hs;simp at hs
    | cons x rest=>
     rw [hl] at hs
     have:rest=[]:=by simpa using hs
     subst this
     cases x with
     | tmp t=>exact hne t hl
     | cell c t=>exact hne2 c t hl
   rw [dif_neg this]
  ·simp at hq
noncomputable def chkF (P:Program) (LF:Nat→List Nat) (OF:Nat→Nat→Option (Nat×List Od)) (f:Nat):Bool:=match P.funcs[f]? with
 | some fn=>match fn.body with
  | some c=>chkC P ⟨fn.ntmps,LF f,OF f⟩ c
  | none=>true
 | none=>true
theorem fnF_ok (hmix:P.follows .mixedOrders=true) (hcf:CallS P G cf) (hr:CallRet cf) (hfr:∀ r,CallFrm r cf) {f:Nat} (hchk:chkF P LF OF f=true) {l:V} {h:H} {k:KV} (hm:fnF P G LF OF cf lf f l h k=true) {φ:Phi} {w:World} {args:List Value} (hg:GlobOk P G φ) (hl:RL φ l args) (R:Rel φ h w) :
  (∀ w,(callFunc f ⟨args⟩).run P w=.ok (.enter f ⟨args⟩) w)∧Calls P f ⟨args⟩ w fun e w'=>∃ c,e=.returned c∧FPost k φ h w c w':=by
 unfold fnF at hm
 cases hf:P.funcs[f]? with
 | none=>rw [hf] at hm;simp [noF] at hm
 | some fn=>
  rw [hf] at hm
  simp only at hm
  split at hm
  ·simp [noF] at hm
  rename_i hname
  split at hm
  rotate_left
  ·simp [noF] at hm
  rename_i hNn
  obtain ⟨hN,hnt⟩:=hNn
  cases hb:fn.body with
  | none=>rw [hb] at hm;simp [noF] at hm
  | some c=>
   cases hq:resE P ⟨fn.ntmps,LF f,OF f⟩ fn.results.toList with
   | none=>rw [hb,hq] at hm;simp [noF] at hm
   | some q=>
    rw [hb,hq] at hm
    simp only at hm
    obtain ⟨h1,ρ',e',h3,h4,h5⟩:=argsK_ok (N:=⟨fn.ntmps,LF f,OF f⟩) hN _ 0 .n e0 l args _ hm hl
    constructor
    ·intro w
     unfold callFunc
     rw [Sem.run_bind,run_program]
     simp only [Result.andThen_ok,hf]
     rw [if_neg hname]
     rw [if_neg (by rw [hb];simp)]
     rfl
    ·refine calls_of_wp hf hb ?_
     have hsz:(({ tmps:=(⟨args⟩ : Array Value)++Array.replicate (fn.ntmps-(⟨args⟩ : Array Value).size) undef,defers:=[] }:Act)).tmps.size=fn.ntmps:=by
      show ((⟨args⟩ : Array Value)++Array.replicate (fn.ntmps-args.length) undef).size=fn.ntmps
      rw [Array.size_append,Array.size_replicate]
      show args.length+_=_
      omega
     have r:RE φ ⟨fn.ntmps,LF f,OF f⟩ ρ' e' { tmps:=(⟨args⟩ : Array Value)++Array.replicate (fn.ntmps-(⟨args⟩ : Array Value).size) undef,defers:=[] }:=by
      refine ⟨hsz,hN,fun t ht=>?_⟩
      dsimp only at ht
      by_cases hta:t<args.length
      ·refine ⟨args[t],?_,?_⟩
       ·show ((⟨args⟩ : Array Value)++_)[t]?=_
        rw [Array.getElem?_append_left (by exact hta)]
        simp [hta]
       ·have:=h5 t _ (List.getElem?_eq_getElem hta)
        rw [Nat.zero_add] at this;exact this
      ·refine ⟨undef,?_,?_⟩
       ·show ((⟨args⟩ : Array Value)++Array.replicate (fn.ntmps-args.length) undef)[t]?=_
        rw [Array.getElem?_append_right (by show args.length≤t;omega)]
        show (Array.replicate (fn.ntmps-args.length) undef)[t-args.length]?=_
        rw [Array.getElem?_replicate,if_pos (by omega)]
       ·obtain ⟨g1,g2⟩:=h4 t (by omega)
        rw [g1,g2]
        rcases getT_e0 ⟨fn.ntmps,LF f,OF f⟩ t with q | q
        ·rw [q];exact ⟨.undef,.undef⟩
        ·rw [q];exact ⟨.any,.any⟩
     refine wp_mono (exec_ok hmix hcf hr hfr lf c ρ' (by unfold chkF at hchk;rw [hf] at hchk;dsimp only at hchk;rw [hb] at hchk;exact hchk) e' h _ h3 φ w _ hg r R) ?_
     rintro ex a' w' ⟨z,e2,h',φ',hz,hK,r',R',X,hd⟩
     cases z with
     | n=>
      cases ex <;> simp [xr] at hz
      obtain ⟨c,v,hv,rv,hk⟩:=results_ok (P:=P) r' R' hq hK
      exact ⟨hd,c,hv,_,rfl,_,h',φ',hk,rv,R',X⟩
     | r=>
      cases ex <;> simp [xr] at hz
      obtain ⟨c,v,hv,rv,hk⟩:=results_ok (P:=P) r' R' hq hK
      exact ⟨hd,c,hv,_,rfl,_,h',φ',hk,rv,R',X⟩
     | x i=>exact Bool.noConfusion (show false=true from hK)
structure EntOk (P:Program) (G:Nat→Bool) (f:Nat) (A:CallF→V→H→KV→Bool):Prop where
 ok:∀ cf,CallS P G cf→CallRet cf→(∀ r,CallFrm r cf)→∀ l h k,A cf l h k=true→∀ φ w args,GlobOk P G φ→RL φ l args→Rel φ h w→OpRun P (callFunc f ⟨args⟩) w (FPost k φ h w)
 ret:∀ cf,CallRet cf→∀ l h,RetV (A cf l h)
 frm:∀ cf,(∀ r,CallFrm r cf)→∀ r l,FrmG r (fun h (k:V→H→Bool)=>A cf l h k)
structure TblOk (P:Program) (G:Nat→Bool) (t:CallF→CallF):Prop where
 ok:∀ cf,CallS P G cf→CallRet cf→(∀ r,CallFrm r cf)→CallS P G (t cf)
 ret:∀ cf,CallRet cf→CallRet (t cf)
 frm:∀ cf,(∀ r,CallFrm r cf)→∀ r,CallFrm r (t cf)
theorem EntOk.no (f:Nat):EntOk P G f (fun _=>noF):=
 ⟨fun _ _ _ _ l h k hm=>Bool.noConfusion (show false=true from hm),fun _ _ _ _=>.inl fun _=>rfl,fun _ _ _ _=>.no⟩
def FnEq (P:Program) (G:Nat→Bool) (LF:Nat→List Nat) (OF:Nat→Nat→Option (Nat×List Od)) (f:Nat) (T:CallF→Nat→V→H→KV→Bool):Prop:=∀ cf lf,fnF P G LF OF cf lf f=T cf lf
theorem EntOk.fn (hmix:P.follows .mixedOrders=true) {f:Nat} {T:CallF→Nat→V→H→KV→Bool} (e:FnEq P G LF OF f T) (hchk:chkF P LF OF f=true) (lf:Nat):EntOk P G f (fun cf=>T cf lf) where
 ok:=fun cf h1 h2 h3 l h k hm φ w args hg hl R=>by
  rw [← e cf lf] at hm
  obtain ⟨g1,g2⟩:=fnF_ok hmix h1 h2 h3 hchk hm hg hl R
  exact .inr (.inr ⟨f,⟨args⟩,g1 w,g2⟩)
 ret:=fun cf h1 l h=>by rw [← e cf lf];exact ret_fnF h1 f l h
 frm:=fun cf h1 r l=>by rw [← e cf lf];exact frm_fnF (h1 r) f l
theorem TblOk.leaf {n:Nat} {T:CallF→V→H→KV→Bool} (e:EntOk P G n T):TblOk P G (fun cf f=>(bs (Nat.beq f n) (T cf) noF:V→H→KV→Bool)) where
 ok:=fun cf h1 h2 h3 f l h k hm=>by
  replace hm:(bs (Nat.beq f n) (T cf) noF:V→H→KV→Bool) l h k=true:=hm
  cases hb:Nat.beq f n with
  | false=>rw [hb] at hm;simp [noF] at hm
  | true=>rw [hb] at hm;obtain rfl:=beq_true hb;exact e.ok cf h1 h2 h3 l h k hm
 ret:=fun cf h1 f l h=>by
  show RetV ((bs (Nat.beq f n) (T cf) noF:V→H→KV→Bool) l h)
  cases hb:Nat.beq f n with
  | false=>exact .inl fun _=>rfl
  | true=>exact e.ret cf h1 l h
 frm:=fun cf h1 r f l=>by
  show FrmG r (fun h (k:V→H→Bool)=>(bs (Nat.beq f n) (T cf) noF:V→H→KV→Bool) l h k)
  cases hb:Nat.beq f n with
  | false=>exact .no
  | true=>exact e.frm cf h1 r l
theorem TblOk.node (n:Nat) {A B:CallF→CallF} (a:TblOk P G A) (b:TblOk P G B):TblOk P G (fun cf f=>(bs (Nat.ble n f) (A cf f) (B cf f):V→H→KV→Bool)) where
 ok:=fun cf h1 h2 h3 f l h k hm=>by
  replace hm:(bs (Nat.ble n f) (A cf f) (B cf f):V→H→KV→Bool) l h k=true:=hm
  cases hb:Nat.ble n f with
  | false=>rw [hb] at hm;exact b.ok cf h1 h2 h3 f l h k hm
  | true=>rw [hb] at hm;exact a.ok cf h1 h2 h3 f l h k hm
 ret:=fun cf h1 f l h=>by
  show RetV ((bs (Nat.ble n f) (A cf f) (B cf f):V→H→KV→Bool) l h)
  cases hb:Nat.ble n f with
  | false=>exact b.ret cf h1 f l h
  | true=>exact a.ret cf h1 f l h
 frm:=fun cf h1 r f l=>by
  show FrmG r (fun h (k:V→H→Bool)=>(bs (Nat.ble n f) (A cf f) (B cf f):V→H→KV→Bool) l h k)
  cases hb:Nat.ble n f with
  | false=>exact b.frm cf h1 r f l
  | true=>exact a.frm cf h1 r f l
noncomputable def run (t:CallF→CallF) (n:Nat):CallF:=Nat.rec (motive:=fun _=>CallF) (fun _ _ _ _=>false) (fun _ ih=>t ih) n
theorem run_ok {t:CallF→CallF} (h:TblOk P G t):∀ n,CallS P G (run t n)∧CallRet (run t n)∧∀ r,CallFrm r (run t n)
 | 0=>⟨fun f l h k hm=>Bool.noConfusion (show false=true from hm),fun _ _ _=>.inl fun _=>rfl,fun _ _ _=>.no⟩
 | n+1=>let ⟨a,b,c⟩:=run_ok h n;⟨h.ok _ a b c,h.ret _ b,h.frm _ c⟩
end Go.Bvm
set_option linter.unusedVariables false
namespace Go.Bvm
open Go.ChangeShapes Go.WideShapes Go.ChangeAt Go.RowKit
noncomputable def osl:V:=.x .osl V.nil V.nil
end Go.Bvm
set_option linter.unusedVariables false
namespace Go.Bvm
variable {P:Program} {G:Nat→Bool}
noncomputable section
def fnd (c:Nat):(l n i:Nat)→Nat:=Nat.rec (motive:=fun _=>Nat→Nat→Nat) (fun _ _=>Nat.sub bias 1) (fun _ ih n i=>bs (Nat.beq (Nat.mod n 256) c) (Nat.add i bias) (ih (Nat.div n 256) (Nat.succ i)))
def extSame (l:V) (h:H) (k:KV):Bool:=onCons l fun a r=>onNil r (k a h)
def extIdx (l:V) (h:H) (k:KV):Bool:=onCons l fun a r=>onCons r fun b r=>onNil r (onS a fun m n=>onY b fun c=>both (Nat.ble m 1000000000) (k (.w (fnd c m n 0)) h))
end
theorem EntOk.same {f:Nat} {fn:Func} (hf:P.funcs[f]?=some fn) (hname:(fn.name == "runtime.NumGoroutine")=false) (hb:fn.body.isNone=true) (hn:Extern.findNext fn=none) (he:Extern.find fn=some Extern.AbiNoEscape.same):EntOk P G f (fun _=>extSame) where
 ok:=fun cf _ _ _ l h k hm φ w args hg hl R=>by
  obtain ⟨a,r,rfl,hm⟩:=onCons_true hm
  cases hl with
  | cons ha hr=>
   obtain ⟨_,_,rfl,hm⟩:=onNil_true hm
   cases hr
   exact .inl ⟨_,w,by rw [run_callFunc_extern hf hname hb hn he];rfl,_,h,φ,hm,ha,R,.refl _ _ _⟩
 ret:=fun cf _ l h=>.onCons fun a r=>.onNil (.k _)
 frm:=fun cf _ r l h hk=>by
  show FrmAt r (fun h (k:V→H→Bool)=>onCons l fun a r=>onNil r (k a h)) h
  cases l with
  | x g a b=>
   cases g <;> first | exact .no | skip
   show FrmAt r (fun h (k:V→H→Bool)=>onNil b (k a h)) h
   cases b with
   | x g a' b'=>cases g <;> first | exact .no | exact .k hk _
   | _=>exact .no
  | _=>exact .no
theorem fnd_eq (c:UInt8):∀ (bs:List UInt8) (i:Nat),fnd c.toNat bs.length (pack bs) i=match (List.range bs.length).find? (fun j=>bs[j]! == c) with | some j=>i+j+bias | none=>bias-1
 | [],i=>rfl
 | b::r,i=>by
  have h1:(b.toNat+256*pack r) % 256=b.toNat:=by have:=b.toNat_lt;omega
  have h2:(b.toNat+256*pack r) / 256=pack r:=by have:=b.toNat_lt;omega
  show bs (Nat.beq ((b.toNat+256*pack r) % 256) c.toNat) (i+bias) (fnd c.toNat r.length ((b.toNat+256*pack r) / 256) (i+1))=_
  rw [h1,h2,fnd_eq c r (i+1),List.length_cons,List.range_succ_eq_map,List.find?_cons]
  by_cases hbc:b=c
  ·subst hbc
   simp
  ·have:Nat.beq b.toNat c.toNat=false:=by
    cases hq:Nat.beq b.toNat c.toNat with
    | false=>rfl
    | true=>exact absurd (UInt8.toNat_inj.1 (beq_true hq)) hbc
   rw [this,bs_false]
   have h3:((b::r)[0]! == c)=false:=by simp [hbc]
   rw [h3,List.find?_map]
   have h4:((fun j=>(b::r)[j]! == c) ∘ Nat.succ)=fun j=>r[j]! == c:=by funext j;simp
   rw [h4]
   cases (List.range r.length).find? (fun j=>r[j]! == c) with
   | none=>rfl
   | some j=>simp;omega
theorem firstIdx_eq (s:ByteArray) (c:UInt8):firstIdx s c=match (List.range s.data.toList.length).find? (fun j=>s.data.toList[j]! == c) with | some j=>(j:Int) | none=>-1:=by
 unfold firstIdx
 have e1:s.size=s.data.toList.length:=by simp
 rw [e1]
 have e2:(fun i:Nat=>s[i]! == c)=fun j=>s.data.toList[j]! == c:=by
  funext j
  have e1:s.size=s.data.size:=rfl
  by_cases hj:j<s.size
  ·rw [getElem!_pos s j hj,getElem!_pos s.data.toList j (by simpa using hj)]
   rfl
  ·rw [getElem!_neg s j hj,getElem!_neg s.data.toList j (by simpa using hj)]
 rw [e2]
 split <;> rename_i h <;> rw [h]
theorem find_lt {n j:Nat} {p:Nat→Bool} (h:(List.range n).find? p=some j):j<n:=by
 simpa using List.mem_of_find?_eq_some h
theorem EntOk.idx {f:Nat} {fn:Func} (hf:P.funcs[f]?=some fn) (hname:(fn.name == "runtime.NumGoroutine")=false) (hb:fn.body.isNone=true) (hn:Extern.findNext fn=none) (he:Extern.find fn=some Extern.BytealgIndexByte.indexByte):EntOk P G f (fun _=>extIdx) where
 ok:=fun cf _ _ _ l h k hm φ w args hg hl R=>by
  obtain ⟨a,r,h1,hm1⟩:=onCons_true hm
  rw [h1] at hl
  cases hl with
  | cons ha hr=>
   obtain ⟨b,r',h2,hm2⟩:=onCons_true hm1
   rw [h2] at hr
   cases hr with
   | cons hb' hr=>
    obtain ⟨_,_,h3,hm3⟩:=onNil_true hm2
    rw [h3] at hr
    cases hr
    obtain ⟨m,n,e1,hm4⟩:=onS_true hm3
    obtain ⟨c,e2,hm5⟩:=onY_true hm4
    obtain ⟨hle,hm6⟩:=both_true hm5
    have hle:=ble_true hle
    rw [e1] at ha;rw [e2] at hb'
    obtain ⟨s,e3,e4,e5⟩:=ha.inv_s
    obtain ⟨hc,e6⟩:=hb'.inv_y
    subst e3 e6
    refine .inl ⟨_,w,by rw [run_callFunc_extern hf hname hb hn he,run_indexByte_string];rfl,_,h,φ,hm6,?_,R,.refl _ _ _⟩
    have hcn:((c:Int).toNat.toUInt8).toNat=c:=by simp;omega
    have hlen:s.data.toList.length=m:=by rw [← e4];simp
    have:=fnd_eq ((c:Int).toNat.toUInt8) s.data.toList 0
    rw [hcn,hlen,e5] at this
    rw [this,firstIdx_eq,hlen]
    cases hq:(List.range m).find? (fun j=>s.data.toList[j]! == (c:Int).toNat.toUInt8) with
    | none=>
     exact RV.w (φ:=φ) (n:=9223372036854775807) (by omega)
    | some j=>
     have:=find_lt hq
     dsimp only
     rw [Nat.zero_add]
     exact RV.nat (by omega)
 ret:=fun cf _ l h=>.onCons fun a r=>.onCons fun b r=>.onNil (.onS fun m n=>.onY fun c=>.both (.k _))
 frm:=fun cf _ r l h hk=>by
  show FrmAt r (fun h (k:V→H→Bool)=>onCons l fun a r=>onCons r fun b r=>onNil r (onS a fun m n=>onY b fun c=>both (Nat.ble m 1000000000) (k (.w (fnd c m n 0)) h))) h
  cases l with
  | x g a b=>
   cases g <;> first | exact .no | skip
   cases b with
   | x g b c=>
    cases g <;> first | exact .no | skip
    cases c with
    | x g c d=>
     cases g <;> first | exact .no | skip
     cases a <;> first | exact .no | skip
     cases b <;> first | exact .no | skip
     rename_i l n c
     exact FrmAt.both (c:=fun _=>Nat.ble l 1000000000) (F:=fun h (k:V→H→Bool)=>k (V.w (fnd c l n 0)) h) (fun _=>rfl) fun _=>FrmAt.k hk _
    | _=>exact .no
   | _=>exact .no
  | _=>exact .no
end Go.Bvm
set_option linter.unusedVariables false
namespace Go.Bvm
open Go.ChangeShapes Go.WideShapes Go.ChangeAt Go.RowKit
def litV:DataW Unit→Value
 | .lit (.int k n)=>.int k n
 | _=>.nilIface
noncomputable def laidCells (P:Program):DataW Unit→Array Value
 | .iface _ (.agg [.ptr (.lit (.string nm))])=>match P.cutTypes.find? (·.1 == "internal/reflectlite.rtype"),(List.range P.types.size).find? (fun t=>P.rowNamed t nm) with
  | some r,some t=>#[.iface r.2 (.agg #[typeHandle P t])]
  | _,_=>#[]
 | .agg l=>(l.map litV).toArray
 | d=>#[litV d]
noncomputable def layOne (P:Program) (w:World) (x:String×DataW Unit):World:=match P.globalNamed x.1 with
 | some g=>{ w with heap:=w.heap.modify g fun
   | .cells _ t frozen=>.cells (laidCells P x.2) t frozen
   | o=>o }
 | none=>w
noncomputable def layAll (P:Program):List (String×DataW Unit)→World→World
 | [],w=>w
 | x::r,w=>layAll P r (layOne P w x)
theorem layOne_os (P:Program) (w:World) (x:String×DataW Unit):(layOne P w x).os=w.os:=by
 unfold layOne;split <;> rfl
theorem layAll_os (P:Program):∀ (l:List (String×DataW Unit)) (w:World),(layAll P l w).os=w.os
 | [],w=>rfl
 | x::r,w=>(layAll_os P r _).trans (layOne_os P w x)
noncomputable def laidWorld (P:Program) (os:Os) (laid:List (String×DataW Unit)):World:=layAll P laid (World.holding P os ⟨#[],#[],[]⟩)
theorem laidWorld_os (P:Program) (os:Os) (laid:List (String×DataW Unit)):(laidWorld P os laid).os=os:=layAll_os P laid _
theorem joinedFacts_of {P:Program} {f:FuncId} {fn:Func} {s:ChangeSpec} {c:OpenClaim}
  (h1:(c.wf (OpenSpec.ofChange s) && laidOutB P && mapsRowed P && fn.params.all (P.readableRec ·) && namedTie P c.named s.vars && (c.stops == []) && (P.stops == []) && (c.knobs == []) && (P.stopKnobs == []))=true)
  (h2:(c.inPlace == P.inPlace f)=true) (h3:(c.unfollowed == P.unfollowed f)=true) (h4:(c.recurses == P.recurses f)=true) (h5:(c.named == P.varsNamed f)=true)
  (h6:((c.maps == (fn.params.toList++s.plain.varTypes P).any (P.mapsRec ·)) && (c.ifaces == (fn.params.toList++s.plain.varTypes P).any (P.ifacesRec ·)) && (c.mapsOut == P.mapsAmong fn.resultTypes.toList) &&
   (c.loops == (fn.params.toList++s.plain.varTypes P).any (P.loopsFrom ·)) && (c.wideKeys == (fn.params.toList++s.plain.varTypes P++fn.resultTypes.toList).any (P.wideKeysFrom ·)) &&
   s.vars.all (P.varReadable ·) && fn.resultTypes.all (fun t=>P.readableRec t && decide (t<P.types.size)) && (c.ifacesOut == fn.resultTypes.toList.any (P.ifacesRec ·)) && (c.loopsOut == fn.resultTypes.toList.any (P.loopsFrom ·)))=true)
  (h7:((c.plainKeys == P.plainKeys) && c.shortTexts.isNone && P.stopsHeard && P.mayEnter && (c.lifted == P.liftsFinal) && (P.make == some c.make) && (c.kinds == (if c.domain.isEmpty then [] else fn.params.toList.map fun t=>match P.underlying t with | some (.int k)=>some k | _=>none)) && (c.pinned == c.pinnedBy) &&
   (c.veiled == (fn.params.toList++s.plain.varTypes P++fn.resultTypes.toList).any (P.veiledRec ·)) && c.veiledFits P fn.params.toList (fn.params.toList++s.plain.varTypes P++fn.resultTypes.toList))=true):joinedFacts P f fn s c=true:=by
 simp only [Bool.and_eq_true] at h1 h6 h7
 obtain ⟨⟨⟨⟨⟨⟨⟨⟨a1,a2⟩,a3⟩,a4⟩,a5⟩,a6⟩,a7⟩,a8⟩,a9⟩:=h1
 obtain ⟨⟨⟨⟨⟨⟨⟨⟨b1,b2⟩,b3⟩,b4⟩,b5⟩,b6⟩,b7⟩,b8⟩,b9⟩:=h6
 obtain ⟨⟨⟨⟨⟨⟨⟨⟨⟨d1,d2⟩,d3⟩,d4⟩,d5⟩,d6⟩,d7⟩,d8⟩,d9⟩,d10⟩:=h7
 unfold joinedFacts
 simp only [Bool.and_eq_true]
 exact ⟨⟨⟨⟨⟨⟨⟨⟨⟨⟨⟨⟨⟨⟨⟨⟨⟨⟨⟨⟨⟨⟨⟨⟨⟨⟨⟨⟨⟨⟨⟨a1,a2⟩,a3⟩,a4⟩,a5⟩,a6⟩,a7⟩,a8⟩,a9⟩,h2⟩,h3⟩,h4⟩,h5⟩,b1⟩,b2⟩,b3⟩,b4⟩,b5⟩,b6⟩,b7⟩,b8⟩,b9⟩,d1⟩,d2⟩,d3⟩,d4⟩,d5⟩,d6⟩,d7⟩,d8⟩,d9⟩,d10⟩
end Go.Bvm
set_option linter.unusedVariables false
namespace Go.Bvm
variable {P:Program} {G:Nat→Bool}
noncomputable section
def up (n k:Nat) (t:List V):List V:=Nat.rec (motive:=fun _=>Nat→List V) (fun _=>t) (fun _ ih k=>.w (Nat.add 9223372036854775808 k)::ih (Nat.succ k)) n k
abbrev Mem:=List (Nat×Blk)
def putM (L:Mem) (t:T6):T6:=List.rec (motive:=fun _=>T6) t (fun x _ ih=>hset x.1 x.2 ih) L
def clrM (L:Mem) (t:T6):T6:=List.rec (motive:=fun _=>T6) t (fun x _ ih=>hset x.1 .nb ih) L
def onPin (b:Blk) (k:Nat→Nat→Nat→Bool):Bool:=Blk.rec (motive:=fun _=>Bool) false (fun _ _ _ _ _ _ _=>false) (fun _=>false) (fun _ _ _=>false) (fun p q r=>k p q r) b
end
theorem lookL:∀ (L:Mem) (i:Nat),(∃ b,(i,b)∈L∧(∀ t:T6,(∀ x,x∈L→0≤x.1)→0≤i→hget i (putM L t)=b)∧∀ t,(∀ x,x∈L→0≤x.1)→0≤i→hget i (clrM L t)=.nb)∨
  ((∀ x,x∈L→x.1≠i)∧(∀ t:T6,(∀ x,x∈L→0≤x.1)→0≤i→hget i (putM L t)=hget i t)∧∀ t:T6,(∀ x,x∈L→0≤x.1)→0≤i→hget i (clrM L t)=hget i t)
 | [],i=>.inr ⟨fun x h=>by simp at h,fun t _ _=>rfl,fun t _ _=>rfl⟩
 | (j,b)::r,i=>by
  by_cases e:i=j
  ·subst e
   refine .inl ⟨b,by simp,fun t hL hi=>?_,fun t hL hi=>?_⟩
   ·show hget i (hset i b (putM r t))=b
    rw [hget_hset _ _ _ _ hi hi,if_pos rfl]
   ·show hget i (hset i .nb (clrM r t))=.nb
    rw [hget_hset _ _ _ _ hi hi,if_pos rfl]
  ·have p1:∀ t:T6,(∀ x,x∈(j,b)::r→0≤x.1)→0≤i→hget i (putM ((j,b)::r) t)=hget i (putM r t):=fun t hL hi=>by
    show hget i (hset j b (putM r t))=_
    rw [hget_hset _ _ _ _ hi (hL (j,b) (by simp)),if_neg e]
   have p2:∀ t:T6,(∀ x,x∈(j,b)::r→0≤x.1)→0≤i→hget i (clrM ((j,b)::r) t)=hget i (clrM r t):=fun t hL hi=>by
    show hget i (hset j .nb (clrM r t))=_
    rw [hget_hset _ _ _ _ hi (hL (j,b) (by simp)),if_neg e]
   rcases lookL r i with ⟨c,h1,h2,h3⟩ | ⟨h1,h2,h3⟩
   ·exact .inl ⟨c,by simp [h1],fun t hL hi=>(p1 t hL hi).trans (h2 t (fun x hx=>hL x (by simp [hx])) hi),fun t hL hi=>(p2 t hL hi).trans (h3 t (fun x hx=>hL x (by simp [hx])) hi)⟩
   ·refine .inr ⟨fun x hx=>?_,fun t hL hi=>(p1 t hL hi).trans (h2 t (fun x hx=>hL x (by simp [hx])) hi),fun t hL hi=>(p2 t hL hi).trans (h3 t (fun x hx=>hL x (by simp [hx])) hi)⟩
    rcases List.mem_cons.1 hx with rfl | hx
    ·exact fun k=>e k.symm
    ·exact h1 x hx
theorem onPin_true {b:Blk} {k:Nat→Nat→Nat→Bool} (h:onPin b k=true):∃ p q r,b=.pin p q r∧k p q r=true:=by
 cases b <;> first | exact Bool.noConfusion (show false=true from h) | exact ⟨_,_,_,rfl,h⟩
theorem EntOk.split {f:Nat} {A B:CallF→V→H→KV→Bool} (n:Nat) (a:EntOk P G f A) (b:EntOk P G f B):EntOk P G f (fun cf l h k=>bs (Nat.ble n h.next) (A cf l h k) (B cf l h k)) where
 ok:=fun cf h1 h2 h3 l h k hm=>by
  replace hm:bs (Nat.ble n h.next) (A cf l h k) (B cf l h k)=true:=hm
  cases e:Nat.ble n h.next with
  | true=>rw [e] at hm;exact a.ok cf h1 h2 h3 l h k hm
  | false=>rw [e] at hm;exact b.ok cf h1 h2 h3 l h k hm
 ret:=fun cf h1 l h=>by
  show RetV (fun k=>bs (Nat.ble n h.next) (A cf l h k) (B cf l h k))
  cases Nat.ble n h.next with
  | true=>exact a.ret cf h1 l h
  | false=>exact b.ret cf h1 l h
 frm:=fun cf h1 r l h hk=>by
  have ha:=a.frm cf h1 r l h hk
  have hb:=b.frm cf h1 r l h hk
  cases e:Nat.ble n h.next with
  | true=>
   rcases ha with e1 | ⟨u,h',e1,k1,e2⟩
   ·exact .inl fun k=>by show bs (Nat.ble n h.next) _ _=_;rw [e];exact e1 k
   ·exact .inr ⟨u,h',fun k=>by show bs (Nat.ble n h.next) _ _=_;rw [e];exact e1 k,k1,fun b k=>by show bs (Nat.ble n h.next) _ _=_;rw [e];exact e2 b k⟩
  | false=>
   rcases hb with e1 | ⟨u,h',e1,k1,e2⟩
   ·exact .inl fun k=>by show bs (Nat.ble n h.next) _ _=_;rw [e];exact e1 k
   ·exact .inr ⟨u,h',fun k=>by show bs (Nat.ble n h.next) _ _=_;rw [e];exact e1 k,k1,fun b k=>by show bs (Nat.ble n h.next) _ _=_;rw [e];exact e2 b k⟩
theorem TblOk.over {t:CallF→CallF} (ht:TblOk P G t) {f:Nat} {A:CallF→V→H→KV→Bool} (e:EntOk P G f A):TblOk P G (fun cf g=>(bs (Nat.beq g f) (A cf) (t cf g):V→H→KV→Bool)) where
 ok:=fun cf h1 h2 h3 g l h k hm=>by
  replace hm:(bs (Nat.beq g f) (A cf) (t cf g):V→H→KV→Bool) l h k=true:=hm
  cases hb:Nat.beq g f with
  | false=>rw [hb,bs_false] at hm;exact ht.ok cf h1 h2 h3 g l h k hm
  | true=>
   rw [hb,bs_true] at hm
   obtain rfl:=beq_true hb
   exact e.ok cf h1 h2 h3 l h k hm
 ret:=fun cf h1 g l h=>by
  show RetV ((bs (Nat.beq g f) (A cf) (t cf g):V→H→KV→Bool) l h)
  cases hb:Nat.beq g f with
  | false=>exact ht.ret cf h1 g l h
  | true=>exact e.ret cf h1 l h
 frm:=fun cf h1 r g l=>by
  show FrmG r (fun h (k:V→H→Bool)=>(bs (Nat.beq g f) (A cf) (t cf g):V→H→KV→Bool) l h k)
  cases hb:Nat.beq g f with
  | false=>exact ht.frm cf h1 r g l
  | true=>exact e.frm cf h1 r l
end Go.Bvm
set_option linter.unusedVariables false
namespace Go.Bvm
open Go.RowKit (Below)
variable {P:Program} {G:Nat→Bool}
def uptoS {α:Type} (f:Nat→α) (k:Nat):List α:=(List.range k).map f
theorem uptoS_succ {α:Type} (f:Nat→α) (k:Nat):uptoS f (k+1)=uptoS f k++[f k]:=by simp [uptoS,List.range_succ]
theorem uptoS_length {α:Type} (f:Nat→α) (k:Nat):(uptoS f k).length=k:=by simp [uptoS]
def backF (len:Nat) (z:Nat→Int) (j:Nat):Nat×Int:=(len-1-j,z (len-1-j))
def IntsAt (W:World) (b:Nat) (sv:Value) (len:Nat) (z:Nat→Int):Prop:=
 (sv=.slice none 0 0∧len=0)∨∃ a off cap,sv=.slice (some a) len cap∧(0<len→a=⟨b,off,none⟩)∧∀ j,j<len→W.cell? ⟨b,off+j,none⟩=some (.int .i64 (z j))
def shStep (i:Int) (aS aD:Nat→Int) (x:Option (Int×Int)) (v:Int):Option (Int×Int):=match x with
 | some (sz,dp)=>if 0≤v∧v=i-sz then some (sz+aS v.toNat,max dp (aD v.toNat)) else none
 | none=>none
def shSt (i:Int) (aS aD:Nat→Int) (vs:List (Nat×Int)):Option (Int×Int):=(vs.map (·.2)).foldl (shStep i aS aD) (some (1,0))
theorem shSt_snoc (i:Int) (aS aD:Nat→Int) (pre:List (Nat×Int)) (x:Nat×Int):shSt i aS aD (pre++[x])=shStep i aS aD (shSt i aS aD pre) x.2:=by
 simp [shSt,List.foldl_append]
def ShOut (i:Nat) (kind:Int) (aS aD:Nat→Int) (len:Nat) (z:Nat→Int) (sz dp:Int) (ok:Bool):Prop:=
 (∃ d,shSt i aS aD (uptoS (backF len z) len)=some (sz,d)∧dp=(if 6≤kind then d+1 else d)∧ok=decide (dp≤8))∨
 (ok=false∧∃ k,k<len∧shSt i aS aD (uptoS (backF len z) k)=some (sz,dp)∧¬ (0≤z (len-1-k)∧z (len-1-k)=i-sz))
def ShC (P:Program) (f:Nat):Prop:=∀ (gd:Nat→Prop) (lB lo llen lcap aB ao:Nat) (aA:Option Addr) (alen acap:Nat),(0<alen→aA=some ⟨aB,ao,none⟩)→∀ (i:Nat) (kind:Int) (sa:Option Addr) (slen scap pB len:Nat) (z:Nat→Int) (aS aD:Nat→Int) (w:World),
  lB<w.heap.size→aB<w.heap.size→pB<w.heap.size→i<llen→i≤1000000000→
  w.cell? ⟨lB,lo+i*5,none⟩=some (.int .i64 kind)→w.cell? ⟨lB,lo+i*5+4,none⟩=some (.slice sa slen scap)→
  len*8≤140737488351232→IntsAt w pB (.slice sa slen scap) len z→
  (∀ j,j<alen→gd j→w.cell? ⟨aB,ao+j*2,none⟩=some (.int .i64 (aS j))∧w.cell? ⟨aB,ao+j*2+1,none⟩=some (.int .i64 (aD j)))→
  (∀ pre:List (Nat×Int),pre.length<len→∀ sz dp,shSt i aS aD pre=some (sz,dp)→0≤(i:Int)-sz→
   ((i:Int)-sz).toNat<alen∧1≤aS ((i:Int)-sz).toNat∧aS ((i:Int)-sz).toNat≤1000000000∧0≤aD ((i:Int)-sz).toNat∧aD ((i:Int)-sz).toNat≤1000000000∧gd ((i:Int)-sz).toNat)→
  Calls P f #[.slice (some ⟨lB,lo,none⟩) llen lcap,.slice aA alen acap,.int .i64 i] w fun e W'=>∃ sz dp ok,e=.returned (.tuple #[.agg #[.int .i64 sz,.int .i64 dp],.bool ok])∧ShOut i kind aS aD len z sz dp ok∧Below w.heap.size w W'
noncomputable section
def onArr (es:Nat) (s:V) (h:H) (f:Nat→Nat→Arr→Bool):Bool:=onSl s (f 0 0 (.a1 z1)) fun id off len ver e=>both (Nat.beq e es) (onBk (hget id h.tr) fun c _ bver _ _ _ _=>both (Nat.beq ver bver) (f off len c))
def shAt (ao alen:Nat) (c:Arr) (m:Nat) (k:Nat→Nat→Bool):Bool:=
 both (Nat.ble (Nat.succ m) alen) (onW (aget (Nat.add ao (Nat.mul m 2)) c) fun s=>onW (aget (Nat.succ (Nat.add ao (Nat.mul m 2))) c) fun d=>
  both (Nat.ble (Nat.succ bias) s) (both (Nat.ble s (Nat.add bias 1000000000)) (both (Nat.ble bias d) (both (Nat.ble d (Nat.add bias 1000000000)) (k (Nat.sub s bias) (Nat.sub d bias))))))
def shChk (ao alen:Nat) (c:Arr) (i:Nat):(n sz:Nat)→Bool:=Nat.rec (motive:=fun _=>Nat→Bool) (fun _=>true) (fun _ ih sz=>bs (Nat.ble sz i) (shAt ao alen c (Nat.sub i sz) fun s _=>ih (Nat.add sz s)) true)
def shLoop (ao alen:Nat) (c:Arr) (i po:Nat) (pc:Arr) (k:Nat→Nat→Bool→Bool):(n sz dp:Nat)→Bool:=Nat.rec (motive:=fun _=>Nat→Nat→Bool) (fun sz dp=>k sz dp true)
 (fun n ih sz dp=>onW (aget (Nat.add po n) pc) fun v=>bs (both (Nat.ble sz i) (Nat.beq v (Nat.add bias (Nat.sub i sz)))) (shAt ao alen c (Nat.sub i sz) fun s d=>ih (Nat.add sz s) (bs (Nat.ble dp d) d dp)) (k sz dp false))
def shRes (sz dp:Nat) (ok:Bool):V:=.x .tup (.x .cons (.x .agg (.x .cons (.w (Nat.add bias sz)) (.x .cons (.w (Nat.add bias dp)) V.nil)) V.nil) (.x .cons (.t ok) V.nil)) V.nil
def shFin (kind:Nat) (k:V→Bool) (sz dp:Nat) (go:Bool):Bool:=
 both (Nat.ble sz 1000000000000) (both (Nat.ble dp 1000000000000) (bs go (bs (Nat.ble (Nat.add bias 6) kind) (k (shRes sz (Nat.succ dp) (Nat.ble (Nat.succ dp) 8))) (k (shRes sz dp (Nat.ble dp 8)))) (k (shRes sz dp false))))
def shWs (po:Nat) (pc:Arr):Nat→Bool:=Nat.rec (motive:=fun _=>Bool) true (fun n ih=>onW (aget (Nat.add po n) pc) fun _=>ih)
def shRest (ao al:Nat) (ac:Arr) (i kd po pl:Nat) (pc:Arr) (k:V→Bool):Bool:=
 both (Nat.ble pl 4096) (both (shWs po pc pl) (both (shChk ao al ac i pl 1) (shLoop ao al ac i po pc (shFin kd k) pl 1 0)))
def extSh (l:V) (h:H) (k:KV):Bool:=onCons l fun a r=>onCons r fun b r=>onCons r fun x r=>onNil r (onW x fun m=>both (Nat.ble bias m) (both (Nat.ble m (Nat.add bias 1000000000))
 (onArr 5 a h fun lo ll lc=>both (Nat.ble (Nat.succ (Nat.sub m bias)) ll) (onArr 2 b h fun ao al ac=>onW (aget (Nat.add lo (Nat.mul (Nat.sub m bias) 5)) lc) fun kd=>onArr 1 (aget (Nat.add (Nat.add lo (Nat.mul (Nat.sub m bias) 5)) 4) lc) h fun po pl pc=>
  shRest ao al ac (Nat.sub m bias) kd po pl pc fun v=>k v h))))
end
theorem onArr_true {es:Nat} {s:V} {h:H} {f:Nat→Nat→Arr→Bool} (hm:onArr es s h f=true) {φ:Phi} {v:Value} {w:World} (r:RV φ s v) (R:Rel φ h w) :
  ∃ off len c,f off len c=true∧((v=.slice none 0 0∧len=0)∨∃ B a base cap,v=.slice (some a) len cap∧B<w.heap.size∧(0<len→a=⟨B,base+off,none⟩)∧∀ j,j<off+len*es→∃ v,w.cell? ⟨B,base+j,none⟩=some v∧RV φ (aget j c) v):=by
 unfold onArr at hm
 cases r with
 | sl h1 h2 h3 h4 h5=>
  rename_i id off len ver esz cap a l
  obtain ⟨g1,g2⟩:=both_true hm
  obtain rfl:=beq_true g1
  obtain ⟨c,size,bver,frz,elem,ex,own,e2,g3⟩:=onBk_true g2
  obtain ⟨g4,g5⟩:=both_true g3
  obtain rfl:=beq_true g4
  refine ⟨_,_,_,g5,.inr ⟨l.B,a,l.base,cap,rfl,(R.dom _ _ _ h1).2.1,fun hl=>h4 (by omega),fun j hj=>?_⟩⟩
  obtain ⟨v,hv,rv,_⟩:=R.cell h1 e2 (i:=j) (by omega)
  exact ⟨v,hv,rv⟩
 | slnil=>exact ⟨_,_,_,hm,.inl ⟨rfl,rfl⟩⟩
 | _=>exact Bool.noConfusion (show false=true from hm)
theorem frm_onArr {α:Type} {r:Nat} {h:H} (hk:Kept r h) {es:Nat} {s:V} {f:Nat→Nat→Arr→H→(α→H→Bool)→Bool} (hf:∀ a b c,FrmAt r (f a b c) h):FrmAt r (fun h k=>onArr es s h fun a b c=>f a b c h k) h:=by
 unfold onArr
 exact .onSl (hf _ _ _) fun id off len ver e=>.both (c:=fun _=>Nat.beq e es) (fun _=>rfl) fun _=>.onBk hk fun c s v g z x o _=>.both (c:=fun _=>Nat.beq ver v) (fun _=>rfl) fun _=>hf _ _ _
theorem ret_onArr {α:Type} {h:H} {es:Nat} {s:V} {f:Nat→Nat→Arr→(α→Bool)→Bool} (hf:∀ a b c,RetG (f a b c)):RetG (fun k=>onArr es s h fun a b c=>f a b c k):=by
 unfold onArr
 exact .onSl (hf _ _ _) fun id off len ver e=>.both (.onBk fun c s v g z x o=>.both (hf _ _ _))
theorem shAt_ret {α:Type} {ao alen:Nat} {c:Arr} {m:Nat} {f:Nat→Nat→(α→Bool)→Bool} (hf:∀ s d,RetG (f s d)):RetG (fun k=>shAt ao alen c m fun s d=>f s d k):=by
 unfold shAt
 exact .both (.onW fun s=>.onW fun d=>.both (.both (.both (.both (hf _ _)))))
theorem shFin_ret {kd sz dp:Nat} {go:Bool}:RetG (fun k=>shFin kd k sz dp go):=.both (.both (.bs (.bs (.k _) (.k _)) (.k _)))
theorem shLoop_ret {ao alen:Nat} {c:Arr} {i po:Nat} {pc:Arr} {kd:Nat}:∀ n sz dp:Nat,RetG (fun k=>shLoop ao alen c i po pc (shFin kd k) n sz dp)
 | 0,sz,dp=>shFin_ret
 | n+1,sz,dp=>.onW fun v=>.bs (shAt_ret fun s d=>shLoop_ret n _ _) shFin_ret
theorem shRest_ret {ao al:Nat} {ac:Arr} {i kd po pl:Nat} {pc:Arr}:RetG (shRest ao al ac i kd po pl pc):=.both (.both (.both (shLoop_ret _ _ _)))
noncomputable def aS (ao:Nat) (c:Arr) (j:Nat):Int:=(wOf (aget (ao+j*2) c):Int)-bias
noncomputable def aD (ao:Nat) (c:Arr) (j:Nat):Int:=(wOf (aget (ao+j*2+1) c):Int)-bias
def gdAt (ao:Nat) (c:Arr) (j:Nat):Prop:=(∃ n,aget (ao+j*2) c=.w n)∧∃ n,aget (ao+j*2+1) c=.w n
theorem shAt_true {ao alen:Nat} {c:Arr} {m:Nat} {k:Nat→Nat→Bool} (h:shAt ao alen c m k=true):m<alen∧gdAt ao c m∧∃ s d:Nat,k s d=true∧aS ao c m=s∧aD ao c m=d∧1≤s∧s≤1000000000∧d≤1000000000:=by
 obtain ⟨h1,h2⟩:=both_true h
 obtain ⟨s,e1,h3⟩:=onW_true h2
 obtain ⟨d,e2,h4⟩:=onW_true h3
 obtain ⟨h5,h6⟩:=both_true h4
 obtain ⟨h7,h8⟩:=both_true h6
 obtain ⟨h9,h10⟩:=both_true h8
 obtain ⟨h11,h12⟩:=both_true h10
 have h5:=ble_true h5;have h7:=ble_true h7;have h9:=ble_true h9;have h11:=ble_true h11
 have e1:aget (ao+m*2) c=.w s:=e1
 have e2:aget (ao+m*2+1) c=.w d:=e2
 simp only [Nat.add_eq,Nat.succ_eq_add_one] at h5 h7 h9 h11
 refine ⟨by have:=ble_true h1;omega,⟨⟨_,e1⟩,⟨_,e2⟩⟩,s-bias,d-bias,h12,?_,?_,by omega,by omega,by omega⟩
 ·unfold aS;rw [e1];show ((s:Nat):Int)-(bias:Nat)=_;omega
 ·unfold aD;rw [e2];show ((d:Nat):Int)-(bias:Nat)=_;omega
theorem fold_none {i:Int} {S D:Nat→Int}:∀ vs:List Int,vs.foldl (shStep i S D) none=none
 | []=>rfl
 | v::vs=>by rw [List.foldl_cons];exact fold_none vs
theorem shChk_ok {ao alen:Nat} {c:Arr} {i:Nat}:∀ (vs:List Int) (n:Nat) (sz0:Nat) (dp0 sz dp:Int),shChk ao alen c i n sz0=true→vs.length<n→vs.foldl (shStep i (aS ao c) (aD ao c)) (some ((sz0:Int),dp0))=some (sz,dp)→0≤(i:Int)-sz→
  ((i:Int)-sz).toNat<alen∧1≤aS ao c ((i:Int)-sz).toNat∧aS ao c ((i:Int)-sz).toNat≤1000000000∧0≤aD ao c ((i:Int)-sz).toNat∧aD ao c ((i:Int)-sz).toNat≤1000000000∧gdAt ao c ((i:Int)-sz).toNat
 | _,0,_,_,_,_,_,hl,_,_=>absurd hl (by omega)
 | [],n+1,sz0,dp0,sz,dp,hc,_,hf,hi=>by
  simp only [List.foldl_nil,Option.some.injEq,Prod.mk.injEq] at hf
  obtain ⟨rfl,rfl⟩:=hf
  have hc:bs (Nat.ble sz0 i) (shAt ao alen c (Nat.sub i sz0) fun s _=>shChk ao alen c i n (Nat.add sz0 s)) true=true:=hc
  rw [show Nat.ble sz0 i=true from Nat.ble_eq_true_of_le (by omega),bs_true] at hc
  obtain ⟨h1,h2,s,d,_,h3,h4,h5,h6,h7⟩:=shAt_true hc
  have e:((i:Int)-sz0).toNat=Nat.sub i sz0:=by show _=i-sz0;omega
  rw [e,h3,h4]
  exact ⟨h1,by omega,by omega,by omega,by omega,h2⟩
 | v::vs,n+1,sz0,dp0,sz,dp,hc,hl,hf,hi=>by
  rw [List.foldl_cons] at hf
  simp only [shStep] at hf
  split at hf
  ·rename_i hv
   have hc:bs (Nat.ble sz0 i) (shAt ao alen c (Nat.sub i sz0) fun s _=>shChk ao alen c i n (Nat.add sz0 s)) true=true:=hc
   rw [show Nat.ble sz0 i=true from Nat.ble_eq_true_of_le (by omega),bs_true] at hc
   obtain ⟨h1,h2,s,d,h8,h3,h4,h5,h6,h7⟩:=shAt_true hc
   have e:v.toNat=Nat.sub i sz0:=by show _=i-sz0;omega
   rw [e,h3] at hf
   exact shChk_ok vs n (sz0+s) _ sz dp h8 (by simpa using hl) (by rw [Int.natCast_add];exact hf) hi
  ·rw [fold_none] at hf;simp at hf
theorem shSt_prev {i:Int} {S D:Nat→Int} {f:Nat→Nat×Int}:∀ (m k:Nat),k≤m→(∃ x,shSt i S D (uptoS f m)=some x)→∃ x,shSt i S D (uptoS f k)=some x
 | 0,k,hk,h=>by rw [Nat.le_zero.1 hk];exact h
 | m+1,k,hk,h=>by
  by_cases e:k=m+1
  ·rw [e];exact h
  ·refine shSt_prev m k (by omega) ?_
   rw [uptoS_succ,shSt_snoc] at h
   cases hq:shSt i S D (uptoS f m) with
   | none=>rw [hq] at h;obtain ⟨x,h⟩:=h;simp [shStep] at h
   | some x=>exact ⟨x,rfl⟩
theorem shSt_step {i:Int} {S D:Nat→Int} {f:Nat→Nat×Int} {k:Nat} {sz dp:Int} (h:shSt i S D (uptoS f k)=some (sz,dp)) (hn:¬ (0≤(f k).2∧(f k).2=i-sz)):shSt i S D (uptoS f (k+1))=none:=by
 rw [uptoS_succ,shSt_snoc,h]
 simp only [shStep]
 rw [if_neg hn]
theorem shFin_true {kind:Nat} {k:V→Bool} {sz dp:Nat} {go:Bool} (h:shFin kind k sz dp go=true):sz≤1000000000000∧dp≤1000000000000∧((go=true∧∃ d,d=(if bias+6≤kind then dp+1 else dp)∧k (shRes sz d (decide (d≤8)))=true)∨(go=false∧k (shRes sz dp false)=true)):=by
 obtain ⟨h1,h2⟩:=both_true h
 obtain ⟨h3,h4⟩:=both_true h2
 refine ⟨ble_true h1,ble_true h3,?_⟩
 have hb:∀ d:Nat,Nat.ble d 8=decide (d≤8):=fun d=>by
  by_cases h:d≤8
  ·rw [Nat.ble_eq_true_of_le h];simp [h]
  ·cases hq:Nat.ble d 8 with
   | true=>exact absurd (ble_true hq) h
   | false=>simp [h]
 cases go with
 | true=>
  rw [bs_true] at h4
  refine .inl ⟨rfl,_,rfl,?_⟩
  split
  ·rename_i hq
   rw [show Nat.ble (Nat.add bias 6) kind=true from Nat.ble_eq_true_of_le hq,bs_true] at h4
   rw [← hb];exact h4
  ·rename_i hq
   have:Nat.ble (Nat.add bias 6) kind=false:=by
    cases hz:Nat.ble (Nat.add bias 6) kind with
    | true=>exact absurd (ble_true hz) hq
    | false=>rfl
   rw [this,bs_false] at h4
   rw [← hb];exact h4
 | false=>exact .inr ⟨rfl,h4⟩
theorem shLoop_ok {ao alen:Nat} {c:Arr} {i po:Nat} {pc:Arr} {kd:Nat} {k:V→Bool} {len:Nat} {z:Nat→Int} (hz:∀ j n,j<len→aget (po+j) pc=.w n→z j=(n:Int)-bias) {SZ DP:Int} {OK:Bool}
  (ho:ShOut i ((kd:Int)-bias) (aS ao c) (aD ao c) len z SZ DP OK) :
  ∀ (n sz dp:Nat),n≤len→shSt i (aS ao c) (aD ao c) (uptoS (backF len z) (len-n))=some ((sz:Int),(dp:Int))→shLoop ao alen c i po pc (shFin kd k) n sz dp=true→
   ∃ s d:Nat,SZ=s∧DP=d∧s≤1000000000000∧d≤1000000000001∧k (shRes s d OK)=true
 | 0,sz,dp,_,hst,hm=>by
  rw [Nat.sub_zero] at hst
  obtain ⟨b1,b2,⟨_,d,hd,h3⟩ | ⟨h2,_⟩⟩:=shFin_true hm
  ·rcases ho with ⟨d',e1,e2,e3⟩ | ⟨_,q,hq,e1,e2⟩
   ·rw [hst] at e1
    simp only [Option.some.injEq,Prod.mk.injEq] at e1
    obtain ⟨rfl,rfl⟩:=e1
    have hDP:DP=(d:Int):=by
     rw [e2,hd]
     by_cases h6:bias+6≤kd
     ·rw [if_pos h6,if_pos (by omega)];omega
     ·rw [if_neg h6,if_neg (by omega)]
    refine ⟨sz,d,rfl,hDP,b1,?_,?_⟩
    ·rw [hd];split <;> omega
    ·rw [e3,hDP]
     have:decide ((d:Int)≤8)=decide (d≤8):=by simp only [decide_eq_decide];omega
     rw [this];exact h3
   ·have:=shSt_step (f:=backF len z) e1 e2
    obtain ⟨x,hx⟩:=shSt_prev len (q+1) (by omega) ⟨_,hst⟩
    rw [this] at hx;simp at hx
  ·simp at h2
 | n+1,sz,dp,hn,hst,hm=>by
  have hm:onW (aget (Nat.add po n) pc) (fun v=>bs (both (Nat.ble sz i) (Nat.beq v (Nat.add bias (Nat.sub i sz)))) (shAt ao alen c (Nat.sub i sz) fun s d=>shLoop ao alen c i po pc (shFin kd k) n (Nat.add sz s) (bs (Nat.ble dp d) d dp)) (shFin kd k sz dp false))=true:=hm
  obtain ⟨v,ev,hm⟩:=onW_true hm
  have hzn:z n=(v:Int)-bias:=hz n v (by omega) ev
  have hlen:len-n=(len-(n+1))+1:=by omega
  have hbk:backF len z (len-(n+1))=(n,z n):=by unfold backF;rw [show len-1-(len-(n+1))=n from by omega]
  cases hb:both (Nat.ble sz i) (Nat.beq v (Nat.add bias (Nat.sub i sz))) with
  | true=>
   obtain ⟨g1,g2⟩:=both_true hb
   have g1:=ble_true g1;have g2:=beq_true g2
   rw [hb,bs_true] at hm
   obtain ⟨h1,h2,s,d,h8,h3,h4,h5,h6,h7⟩:=shAt_true hm
   have g2:v=bias+(i-sz):=g2
   refine shLoop_ok hz ho n _ _ (by omega) ?_ h8
   rw [hlen,uptoS_succ,shSt_snoc,hst,hbk]
   simp only [shStep]
   have e:(z n).toNat=Nat.sub i sz:=by rw [hzn];show _=i-sz;omega
   rw [if_pos ⟨by omega,by omega⟩,e,h3,h4]
   simp only [Option.some.injEq,Prod.mk.injEq]
   refine ⟨by simp,?_⟩
   cases hq:Nat.ble dp d with
   | true=>have:=ble_true hq;rw [bs_true];omega
   | false=>
    have:¬ dp≤d:=fun h=>by rw [Nat.ble_eq_true_of_le h] at hq;simp at hq
    rw [bs_false];omega
  | false=>
   rw [hb,bs_false] at hm
   have hne:¬ (0≤(backF len z (len-(n+1))).2∧(backF len z (len-(n+1))).2=(i:Int)-sz):=by
    rw [hbk]
    rintro ⟨q1,q2⟩
    dsimp only at q1 q2
    rw [hzn] at q1 q2
    have a1:Nat.ble sz i=true:=Nat.ble_eq_true_of_le (by omega)
    have a2:v=Nat.add bias (Nat.sub i sz):=by show v=bias+(i-sz);omega
    rw [a1,← a2] at hb
    simp [both] at hb
   have hnone:=shSt_step hst hne
   obtain ⟨b1,b2,⟨h2,_⟩ | ⟨_,h3⟩⟩:=shFin_true hm
   ·simp at h2
   ·rcases ho with ⟨d',e1,e2,e3⟩ | ⟨hok,q,hq,e1,e2⟩
    ·obtain ⟨x,hx⟩:=shSt_prev len (len-(n+1)+1) (by omega) ⟨_,e1⟩
     rw [hnone] at hx;simp at hx
    ·have h4:=shSt_step (f:=backF len z) e1 e2
     have hq:q=len-(n+1):=by
      rcases Nat.lt_trichotomy q (len-(n+1)) with h | h | h
      ·obtain ⟨x,hx⟩:=shSt_prev (len-(n+1)) (q+1) (by omega) ⟨_,hst⟩
       rw [h4] at hx;simp at hx
      ·exact h
      ·obtain ⟨x,hx⟩:=shSt_prev q (len-(n+1)+1) (by omega) ⟨_,e1⟩
       rw [hnone] at hx;simp at hx
     rw [hq,hst] at e1
     simp only [Option.some.injEq,Prod.mk.injEq] at e1
     exact ⟨sz,dp,e1.1.symm,e1.2.symm,b1,by omega,by rw [hok];exact h3⟩
theorem Rel.belowW {φ:Phi} {h:H} {w w':World} (R:Rel φ h w) (hB:Below w.heap.size w w'):Rel φ h w'∧Ext φ h w φ h w':=by
 have hk:∀ (b:Blk) (id:Nat),BlkOk φ w id b→BlkOk φ w' id b:=fun b id hb=>by
  cases b with
  | nb=>trivial
  | bk c size ver frz elem ex own=>
   obtain ⟨l,cs,fr,h1,h2,h3,h4⟩:=hb
   exact ⟨l,cs,fr,h1,h2,(hB.block _ (R.dom _ _ _ h1).2.1).trans h3,h4⟩
  | mp kv=>
   obtain ⟨l,es,clock,h1,h2,h3,h4⟩:=hb
   exact ⟨l,es,clock,h1,h2,(hB.block _ (R.dom _ _ _ h1).2.1).trans h3,h4⟩
  | pin p q r=>
   obtain ⟨l,el,fr,h1,h2,h3,h4⟩:=hb
   exact ⟨l,el,fr,h1,h2,(hB.block _ (R.dom _ _ _ h1).2.1).trans h3,h4⟩
  | it n r pos=>
   obtain ⟨l,s,h1,h2,h3,h4⟩:=hb
   exact ⟨l,s,h1,h2,(hB.block _ (R.dom _ _ _ h1).2.1).trans h3,h4⟩
 exact ⟨⟨R.next,fun id v l e=>let ⟨a,b,c⟩:=R.dom id v l e;⟨a,Nat.lt_of_lt_of_le b hB.size,c⟩,fun id hi=>hk _ _ (R.blk id hi),R.apart⟩,
  ⟨φ.le_refl,hB.os,hB.tape,hB.output,hB.size,Nat.le_refl _,fun _ _ h=>h,fun _ _ h=>h,fun B hb _=>hB.block B hb,fun _ _ h=>⟨h,fun _=>rfl⟩⟩⟩
theorem shWs_ok {po:Nat} {pc:Arr}:∀ n,shWs po pc n=true→∀ j,j<n→∃ m,aget (po+j) pc=.w m
 | 0,_,j,hj=>absurd hj (by omega)
 | n+1,h,j,hj=>by
  have h:onW (aget (Nat.add po n) pc) (fun _=>shWs po pc n)=true:=h
  obtain ⟨m,e,h⟩:=onW_true h
  by_cases q:j=n
  ·rw [q];exact ⟨m,e⟩
  ·exact shWs_ok n h j (by omega)
theorem FrmAt.onCons {α:Type} {r:Nat} {h:H} {v:V} {f:V→V→H→(α→H→Bool)→Bool} (hf:∀ a b,FrmAt r (f a b) h):FrmAt r (fun h k=>Bvm.onCons v fun a b=>f a b h k) h:=by
 cases v with
 | x t a b=>cases t <;> first | exact .no | exact hf _ _
 | _=>exact .no
theorem FrmAt.onNil {α:Type} {r:Nat} {h:H} {v:V} {f:H→(α→H→Bool)→Bool} (hf:FrmAt r f h):FrmAt r (fun h k=>Bvm.onNil v (f h k)) h:=by
 cases v with
 | x t a b=>cases t <;> first | exact .no | exact hf
 | _=>exact .no
theorem RV.natW {φ:Phi} {n:Nat} (h:n≤1000000000001):RV φ (.w (Nat.add bias n)) (.int .i64 (n:Int)):=by
 have:=RV.w (φ:=φ) (n:=bias+n) (by unfold bias;omega)
 have e:((bias+n:Nat):Int)-9223372036854775808=(n:Int):=by unfold bias;omega
 rw [e] at this
 exact this
theorem enters_call {f:Nat} {fn:Func} (hf:P.funcs[f]?=some fn) (hname:(fn.name == "runtime.NumGoroutine")=false) (hb:fn.body.isNone=false) (args:Array Value) (w:World):(callFunc f args).run P w=.ok (.enter f args) w:=by
 unfold callFunc
 rw [Sem.run_bind,run_program]
 simp only [Result.andThen_ok,hf]
 rw [if_neg (by rw [hname];simp),if_neg (by rw [hb];simp)]
 rfl
theorem EntOk.sh {f:Nat} (hent:∀ (args:Array Value) (w:World),(callFunc f args).run P w=.ok (.enter f args) w) (hC:ShC P f):EntOk P G f (fun _=>extSh) where
 ok:=fun cf _ _ _ l h k hm φ w args hg hl R=>by
  obtain ⟨a,r,h1,hm1⟩:=onCons_true hm
  rw [h1] at hl
  cases hl with
  | cons ha hr=>
  obtain ⟨b,r',h2,hm2⟩:=onCons_true hm1
  rw [h2] at hr
  cases hr with
  | @cons _ _ bv _ hb hr=>
  obtain ⟨x,r'',h3,hm3⟩:=onCons_true hm2
  rw [h3] at hr
  cases hr with
  | cons hx hr=>
  obtain ⟨_,_,h4,hm4⟩:=onNil_true hm3
  rw [h4] at hr
  cases hr
  obtain ⟨m,e1,hm5⟩:=onW_true hm4
  rw [e1] at hx
  obtain ⟨_,rfl⟩:=hx.inv_w
  obtain ⟨h5,hm6⟩:=both_true hm5
  obtain ⟨h6,hm7⟩:=both_true hm6
  have h5:=ble_true h5;have h6:=ble_true h6
  obtain ⟨i,hi⟩ : ∃ i,i=Nat.sub m bias:=⟨_,rfl⟩
  have e2:(m:Int)-9223372036854775808=(i:Int):=by
   rw [hi];show _=((m-bias:Nat):Int)
   unfold bias at h5 ⊢;omega
  rw [e2]
  rw [← hi] at hm7
  have hi9:i≤1000000000:=by rw [hi];show m-bias≤_;simp only [Nat.add_eq] at h6;omega
  obtain ⟨lo,ll,lc,hm8,hL⟩:=onArr_true hm7 ha R
  obtain ⟨h7,hm9⟩:=both_true hm8
  have h7:=ble_true h7
  have h7:i<ll:=h7
  obtain ⟨ao,al,ac,hm10,hA⟩:=onArr_true hm9 hb R
  obtain ⟨kd,e3,hm11⟩:=onW_true hm10
  rcases hL with ⟨_,hL0⟩ | ⟨lB,lO,lbase,lcap,rfl,hlB,hlo,hlc⟩
  ·omega
  obtain rfl:=hlo (by omega)
  obtain ⟨kv,hk1,hk2⟩:=hlc (lo+i*5) (by omega)
  have e3:aget (lo+i*5) lc=.w kd:=e3
  rw [e3] at hk2
  obtain ⟨_,rfl⟩:=hk2.inv_w
  obtain ⟨pv,hp1,hp2⟩:=hlc (lo+i*5+4) (by omega)
  obtain ⟨po,pl,pc,hm12,hP⟩:=onArr_true hm11 (v:=pv) (by exact hp2) R
  obtain ⟨h8,hm13⟩:=both_true hm12
  obtain ⟨h10,hm13⟩:=both_true hm13
  obtain ⟨h9,hm14⟩:=both_true hm13
  have h8:=ble_true h8
  have hkey:∀ (pB slen scap:Nat) (sa:Option Addr) (z:Nat→Int),pv=.slice sa slen scap→pB<w.heap.size→IntsAt w pB (.slice sa slen scap) pl z→(∀ j n,j<pl→aget (po+j) pc=.w n→z j=(n:Int)-bias)→
    OpRun P (callFunc f ⟨[.slice (some ⟨lB,lbase+lo,none⟩) ll lcap,bv,.int .i64 i]⟩) w (FPost k φ h w):=fun pB slen scap sa z hpv hpB hI hz=>by
   have go:∀ (aB AO:Nat) (aA:Option Addr) (acap:Nat),aB<w.heap.size→(0<al→aA=some ⟨aB,AO,none⟩)→
     (∀ j,j<al→gdAt ao ac j→w.cell? ⟨aB,AO+j*2,none⟩=some (.int .i64 (aS ao ac j))∧w.cell? ⟨aB,AO+j*2+1,none⟩=some (.int .i64 (aD ao ac j)))→
     OpRun P (callFunc f ⟨[.slice (some ⟨lB,lbase+lo,none⟩) ll lcap,.slice aA al acap,.int .i64 i]⟩) w (FPost k φ h w):=fun aB AO aA acap haB haA hS=>by
    refine .inr (.inr ⟨f,_,hent _ w,?_⟩)
    refine (hC (gdAt ao ac) lB (lbase+lo) ll lcap aB AO aA al acap haA i ((kd:Int)-bias) sa slen scap pB pl z (aS ao ac) (aD ao ac) w hlB haB hpB h7 hi9 ?_ ?_ (by omega) hI hS ?_).mono ?_
    ·rw [Nat.add_assoc];exact hk1
    ·rw [← hpv]
     have:=hp1
     rw [show lbase+(lo+i*5+4)=lbase+lo+i*5+4 from by omega] at this
     exact this
    ·intro pre hpre sz dp hst hge
     exact shChk_ok (pre.map Prod.snd) pl 1 0 sz dp h9 (by simpa using hpre) hst hge
    ·rintro e W' ⟨sz,dp,ok,rfl,hout,hBl⟩
     obtain ⟨s,d,rfl,rfl,b1,b2,hk⟩:=shLoop_ok hz hout pl 1 0 (Nat.le_refl _) (by rw [Nat.sub_self];rfl) hm14
     obtain ⟨R',X⟩:=R.belowW hBl
     refine ⟨_,rfl,_,h,φ,hk,?_,R',X⟩
     refine .tup (.cons (.agg (.cons (.natW (by omega)) (.cons (.natW (by omega)) .nil)) ?_) (.cons .t .nil))
     intro v hv
     simp only [List.mem_cons,List.not_mem_nil,or_false] at hv
     rcases hv with rfl | rfl <;> rfl
   rcases hA with ⟨rfl,rfl⟩ | ⟨aB,aO,abase,acap,rfl,haB,hao,hac⟩
   ·exact go lB 0 none 0 hlB (fun h=>absurd h (by omega)) (fun j hj=>absurd hj (by omega))
   ·refine go aB (abase+ao) (some aO) acap haB (fun h=>by rw [hao h]) fun j hj ⟨⟨n1,g1⟩,⟨n2,g2⟩⟩=>?_
    obtain ⟨v1,c1,r1⟩:=hac (ao+j*2) (by omega)
    obtain ⟨v2,c2,r2⟩:=hac (ao+j*2+1) (by omega)
    rw [g1] at r1;rw [g2] at r2
    obtain ⟨_,rfl⟩:=r1.inv_w
    obtain ⟨_,rfl⟩:=r2.inv_w
    unfold aS aD
    rw [g1,g2]
    refine ⟨?_,?_⟩
    ·rw [show abase+ao+j*2=abase+(ao+j*2) from by omega,c1];rfl
    ·rw [show abase+ao+j*2+1=abase+(ao+j*2+1) from by omega,c2];rfl
  rcases hP with ⟨e4,h0⟩ | ⟨pB,pO,pbase,pcap,e4,hpB,hpo,hpc⟩
  ·subst h0
   exact hkey lB 0 0 none (fun _=>0) e4 hlB (.inl ⟨rfl,rfl⟩) (fun j n hj=>absurd hj (by omega))
  ·refine hkey pB pl pcap _ (fun j=>(wOf (aget (po+j) pc):Int)-bias) e4 hpB ?_ (fun j n hj e=>by rw [e];rfl)
   refine .inr ⟨pO,pbase+po,pcap,rfl,hpo,fun j hj=>?_⟩
   obtain ⟨v1,c1,r1⟩:=hpc (po+j) (by omega)
   obtain ⟨m,g1⟩:=shWs_ok pl h10 j hj
   rw [g1] at r1
   obtain ⟨_,rfl⟩:=r1.inv_w
   show w.cell? _=some (.int .i64 ((wOf (aget (po+j) pc):Int)-bias))
   rw [g1,Nat.add_assoc,c1]
   rfl
 ret:=fun cf _ l h=>.onCons fun a r=>.onCons fun b r=>.onCons fun x r=>.onNil (.onW fun m=>.both (.both (ret_onArr fun lo ll lc=>.both (ret_onArr fun ao al ac=>.onW fun kd=>ret_onArr fun po pl pc=>.bind shRest_ret fun v=>.k _))))
 frm:=fun cf _ r l h hk=>.onCons fun a q=>.onCons fun b q=>.onCons fun x q=>.onNil (.onW fun m=>.both (c:=fun _=>Nat.ble bias m) (fun _=>rfl) fun _=>.both (c:=fun _=>Nat.ble m (Nat.add bias 1000000000)) (fun _=>rfl) fun _=>
  frm_onArr hk fun lo ll lc=>.both (c:=fun _=>Nat.ble (Nat.succ (Nat.sub m bias)) ll) (fun _=>rfl) fun _=>frm_onArr hk fun ao al ac=>.onW fun kd=>frm_onArr hk fun po pl pc=>.pure shRest_ret hk)
end Go.Bvm
set_option linter.unusedVariables false
namespace Go.Bvm
open Go
def Plain (o:Oper):Prop:=(∀ c,o.op≠.defer c)∧∀ (P:Program) (ρ:Operand→Value) (w:World),(∃ v w',(execOp ρ o).run P w=.ok (.value v) w')∨(∃ w',(execOp ρ o).run P w=.ok .skip w')∨∃ e w',(execOp ρ o).run P w=.halt e w'
theorem res_v (P:Program) (s:Sem Value) (w:World):(∃ v w',(s.bind fun v=>pure (Next.value v)).run P w=.ok (.value v) w')∨(∃ w',(s.bind fun v=>pure (Next.value v)).run P w=.ok .skip w')∨∃ e w',(s.bind fun v=>pure (Next.value v)).run P w=.halt e w':=by
 rw [Sem.run_bind']
 cases s.run P w with
 | ok v w'=>exact .inl ⟨v,w',rfl⟩
 | halt e w'=>exact .inr (.inr ⟨e,w',rfl⟩)
theorem res_u (P:Program) (s:Sem Unit) (w:World):(∃ v w',(s.bind fun _=>pure Next.skip).run P w=.ok (.value v) w')∨(∃ w',(s.bind fun _=>pure Next.skip).run P w=.ok .skip w')∨∃ e w',(s.bind fun _=>pure Next.skip).run P w=.halt e w':=by
 rw [Sem.run_bind']
 cases s.run P w with
 | ok v w'=>exact .inr (.inl ⟨w',rfl⟩)
 | halt e w'=>exact .inr (.inr ⟨e,w',rfl⟩)
def plainB (o:Oper):Bool:=match o.op with
 | .load .. | .store .. | .fieldAddr .. | .indexAddr .. | .move _ | .binOp ..=>true
 | .call ⟨.builtin .max,_,_⟩=>true
 | _=>false
theorem plain_of {o:Oper} (h:plainB o=true):Plain o:=by
 obtain ⟨dst,op,ty,pos,aft,grd⟩:=o
 unfold plainB at h
 split at h
 all_goals first
  | (rename_i ho;simp only at ho;subst ho;exact ⟨fun c e=>by simp at e,fun P ρ w=>res_v P _ w⟩)
  | (rename_i ho;simp only at ho;subst ho;exact ⟨fun c e=>by simp at e,fun P ρ w=>res_u P _ w⟩)
  | (rename_i ho;simp only at ho;subst ho;exact ⟨fun c e=>by simp at e,fun P ρ w=>.inl ⟨_,_,rfl⟩⟩)
  | (simp at h;done)
  | skip
theorem plain_all {l:List Oper} (h:l.all plainB=true) (i:Nat) (o:Oper) (ho:l.toArray[i]?=some o):Plain o:=
 plain_of (List.all_eq_true.1 h o (by have:=Array.mem_of_getElem? ho;simpa using this))
theorem wpOpIn_of_plain {F:Fence} (hF:∀ f,F.fn f) {n:Nat} {P:Program} {ops:Array Oper} (hp:∀ (i:Nat) (o:Oper),ops[i]?=some o→Plain o) {Q:Exit→Act→World→Prop} {Q':Exit→Act→World→Prop} (hL:¬ LetsOut Q') (hQ':∀ c a w,¬ Q' (.panic c) a w) {i:Nat} {K:Act→World→Prop} {a:Act} {w:World}
  (h:wpOp P ops Q' i K a w):wpOpIn F n P ops Q i K a w:=by
 unfold wpOp at h
 unfold wpOpIn
 cases ho:ops[i]? with
 | none=>rw [ho] at h;exact h
 | some o=>
  rw [ho] at h
  dsimp only at h ⊢
  split <;> rename_i hw
  ·rw [if_pos hw] at h
   rcases h with h | ⟨_,h⟩
   ·refine ⟨fun f _=>hF f,?_⟩
    rw [Oper.semAt_eq _ _ _ (hp i o ho).1]
    unfold Oper.wp at h
    rcases (hp i o ho).2 P a.eval w with ⟨v,w',e⟩ | ⟨w',e⟩ | ⟨e0,w',e⟩
    ·rw [e] at h ⊢;exact h
    ·rw [e] at h ⊢;exact h
    ·rw [e] at h ⊢
     cases e0 <;> first | exact absurd h (hQ' _ _ _) | exact h
   ·exact absurd h hL
  ·rw [if_neg hw] at h
   exact ⟨fun f _=>hF f,h⟩
theorem wpAnyIn_of_plain {F:Fence} (hF:∀ f,F.fn f) {n:Nat} {P:Program} {md:Region.Mode} {ops:Array Oper} (hp:∀ (i:Nat) (o:Oper),ops[i]?=some o→Plain o) {Q Q':Exit→Act→World→Prop} (hL:¬ LetsOut Q') (hQ':∀ c a w,¬ Q' (.panic c) a w) (hN:∀ a w,Q' .normal a w→Q .normal a w) :
  ∀ (fuel:Nat) (listed:Array Bool) (a:Act) (w:World),wpAny P md ops Q' fuel listed a w→wpAnyIn F n P md ops Q fuel listed a w
 | 0,_,_,_,h=>⟨h.1,hN _ _ h.2⟩
 | fuel+1,listed,a,w,h=>⟨fun hr=>hN _ _ (h.1 hr),fun i hi=>wpOpIn_of_plain hF hp hL hQ' (wpOp_mono (fun a w h=>wpAnyIn_of_plain hF hp hL hQ' hN fuel _ a w h) (h.2 i hi))⟩
def only (K:Act→World→Prop):Exit→Act→World→Prop
 | .normal,a,w=>K a w
 | _,_,_=>False
theorem only_out (K:Act→World→Prop):¬ LetsOut (only K):=by
 intro h
 unfold LetsOut at h
 first | exact h | (obtain ⟨a,w,h⟩:=h;exact h) | exact h default default
theorem wpAny_still_tail {P:Program} {Q:Exit→Act→World→Prop} {a:Act} {w:World} {l:List Oper} (n:Nat) (hB:Region.lexTailB .any l.toArray n=true)
  (h:wpStill P l.toArray { w with drawn:=w.drawn+1 } (fun a'=>wpList P l.toArray Q (l.drop n) a' { w with drawn:=w.drawn+1 }) (l.take n) a):wpAny P .any l.toArray Q l.toArray.size (Array.replicate l.toArray.size false) a { w with drawn:=w.drawn+1 }:=by
 simp only [Region.lexTailB,Bool.and_eq_true,decide_eq_true_eq] at hB
 obtain ⟨⟨⟨⟨hsel,hn⟩,hs⟩,hc⟩,hlex⟩:=hB
 have hn':n<l.length:=by simpa using hn
 have htl:(l.take n).length=n:=by simp;omega
 have hdl:(l.drop n).length=l.toArray.size-n:=by simp
 have inv0:HeadInv .any l.toArray n (Array.replicate l.toArray.size false):=
  ⟨by simp,fun j oj _ hl=>(by rw [getD_replicate_false] at hl;cases hl),fun t _ ht=>getD_in (by simpa using ht) (getD_replicate_false _ _)⟩
 have H:=wpAnyL_lex (md:=.any) (g:=l.toArray.size-n) hsel hs hc hn (l.take n) 0 _ a (fun j hj=>by
  have hj':j<n:=by rw [htl] at hj;exact hj
  simp [hj']) (by simpa using htl) inv0 (by rw [htl];exact hlex) h
 have:=wpAny_of_head (Q':=Q) (g:=l.toArray.size-n) (fun listed a' hL=>by
  have:=wpAny_of_seq (md:=.any) (Q':=Q) (l.drop n) n listed a' { w with drawn:=w.drawn+1 } (fun j=>by simp [List.getElem?_drop]) (by rw [hdl];exact hL.1) hL.2
  rwa [hdl] at this) _ _ _ H
 rw [htl,show n+(l.toArray.size-n)=l.toArray.size by omega] at this
 exact this
theorem wpIn_region_still_tail {F:Fence} (hF:∀ f,F.fn f) {m:Nat} {P:Program} {id:Nat} {Q:Exit→Act→World→Prop} {a:Act} {w:World} {l:List Oper} (n:Nat) (hm:P.follows .mixedOrders=true) (hp:∀ (i:Nat) (o:Oper),l.toArray[i]?=some o→Plain o) (hB:Region.lexTailB .any l.toArray n=true)
  (h:wpStill P l.toArray w.drew (fun a'=>wpList P l.toArray (only (Q .normal)) (l.drop n) a' w.drew) (l.take n) a):(Code.region id l.toArray true).wpIn F m P Q a w:=
 wpIn_region_any hm (wpAnyIn_of_plain (Q:=Q) (Q':=only (Q .normal)) hF hp (only_out _) (fun _ _ _ h=>h) (fun _ _ h=>h) _ _ _ _ (wpAny_still_tail n hB h))
end Go.Bvm
