/- Texts for the law, 4. -/
import Derived.Test.YtaimbkndebaaiacZLbuildRuns3
import Derived.KernelRfl
set_option linter.unusedVariables false
set_option linter.unusedSimpArgs false
set_option maxRecDepth 8000
section
namespace Go.Rd
theorem Ajo {l:Lp}{b:List (List Int)} (hb:b.length≤9223372036854775807):Gh l b=some (tb (Ps l b)):=by
 unfold Gh
 rcases Iz (f:=Fg b) (ρ:=Bool) (fun i=>(i:Int)) b.length (fun i=>(ele b (i:Int)).length=3) (fun _=>false) (fun i hi _=>by
   unfold Fg
   rw[Bu (by unfold ln;omega),Av (by omega) (by unfold ln;omega)]
   exact⟨fun h=>by rw[show (ln (ele b (i:Int)) != 3)=false from by unfold ln;rw[h];rfl,br_false,Aj (by omega) (by omega)];rfl,fun h=>by rw[show (ln (ele b (i:Int)) != 3)=true from by unfold ln;simp;omega,br_true]⟩) (by unfold Fg;exact Bt (by unfold ln;omega)) with ⟨q1,e⟩ | ⟨i,q1,q2,_,e⟩
 ·rw[show lp (Fg b) 0=_ from e,bd_ret,Out.on_go]
  congr 1
  refine H7 ?_
  unfold Ps ln
  simp only[beq_iff_eq]
  exact⟨fun h=>⟨by omega,q1⟩,fun h=>by have:=h.1;omega⟩
 ·rw[show lp (Fg b) 0=_ from e,bd_ret,Out.on_ret,B0 fun h:Ps l b=>q2 (h.2 i q1)]
section
variable {l : Lp} {t : Tgt} {k : Krn} {order : List Int} {b : List (List Int)}
theorem Am6 (h:LayP l t k order) (hb:Ps l b):lp (Fx l t b (Gx (Ba l t k order))) (List.replicate t.regs.toNat 0,0)=some (.go (Rz (Ba l t k order) b t.regs.toNat l.body.length,(l.body.length:Int))):=by
 have hy:=I0 h
 have hn:=h.loop.2.2.1
 have hR:=hy.regs
 have hrr:(Ba l t k order).regs=t.regs:=rfl
 have hlp:=hy.lp
 have hbl:(Ba l t k order).body.length=l.body.length:=rfl
 refine Ew (f:=Fx l t b (Gx (Ba l t k order))) (fun s=>(Rz (Ba l t k order) b t.regs.toNat s,(s:Int))) l.body.length (fun s hs=>?_) (by unfold Fx;exact Bt (by unfold ln;omega))
 have hf:=Aam hy (s:Int)
 have hfe:Lv (Ba l t k order).body (s:Int)=Lv l.body s:=rfl
 have hp:=hy.pl s hs
 have hbs:=hb.2 s (by have:=hb.1;omega)
 have hel:=Tp (b:=b) (y:=Ba l t k order) (n:=t.regs.toNat) s
 have Y:=Ew (f:=Fw t b (Gx (Ba l t k order)) s (Lv l.body s)) (ρ:=Empty) (fun q=>(Yb (Ba l t k order) b s (Rz (Ba l t k order) b t.regs.toNat s) q,(q:Int))) (Lv l.body s).toNat (fun q hq=>by
  have hr:=reg_bd hy (s:Int) q
  have hl2:=Tq (b:=b) (y:=Ba l t k order) (s:=s) (R:=Rz (Ba l t k order) b t.regs.toNat s) q
  have hbl2:=hb.1
  unfold Fw
  simp only
  rw[show (Gx (Ba l t k order)).2.2.2.2.2.2.2=(Ba l t k order).places from rfl]
  rw[Bu (by omega),Av (by omega) (by unfold ln;omega),Aj (by omega) (by omega),Aj (by omega) (by omega),Tb (by omega) (by omega),bd_ret,show (ele (Ba l t k order).places (s:Int) - (q:Int) - 1) % t.regs=Iy (Ba l t k order) s q from rfl,Av (by omega) (by unfold ln;omega),Av (by omega) (by unfold ln;omega),Av hr.1 (by unfold ln;omega),Aj (by omega) (by omega)]
  rfl) (by unfold Fw;exact Bt (by omega))
 unfold Fx
 simp only
 rw[Bu (by unfold ln;omega),An8 hn hy.bk,bd_ret,show lp (Fw t b (Gx (Ba l t k order)) s (Lv l.body s)) (Rz (Ba l t k order) b t.regs.toNat s,0)=_ from Y,bd_ret,Out.on_go,Aj (by omega) (by omega)]
 rfl
theorem Amt (h:LayP l t k order) (hb:Ps l b) {regs:List Int} (hr:(regs.length:Int)=t.regs) {turns:Int} (ht:0≤turns∧turns≤200):lp (Fv l t b regs turns (Gx (Ba l t k order))) ([],0)=some (.go ((List.range l.outs.length).map (R7 l t (Ba l t k order) b regs turns),(l.outs.length:Int))):=by
 have hy:=I0 h
 have hn:=h.loop.2.2.1
 have hR:=hy.regs
 have hrr:(Ba l t k order).regs=t.regs:=rfl
 have hlp:=hy.lp
 have hbl:(Ba l t k order).body.length=l.body.length:=rfl
 have hol:=Qc h.loop
 refine Ew (f:=Fv l t b regs turns (Gx (Ba l t k order))) (fun i=>((List.range i).map (R7 l t (Ba l t k order) b regs turns),(i:Int))) l.outs.length (fun i hi=>?_) (by unfold Fv;exact Bt (by unfold ln;omega))
 have ho:=h.loop.out i hi
 rw[show l.outs.getD i 0=ele l.outs (i:Int) from rfl] at ho
 obtain⟨a,ha⟩:=Int.eq_ofNat_of_zero_le ho.1
 have ha':a<l.body.length:=by omega
 have hp:=hy.pl a ha'
 have hbs:=hb.2 a (by have:=hb.1;omega)
 have hbl2:=hb.1
 have h0:=Int.emod_nonneg (ele (Ba l t k order).places (a:Int)+turns - 1) (show t.regs≠0 by omega)
 have h1:=Int.emod_lt_of_pos (ele (Ba l t k order).places (a:Int)+turns - 1) (show 0<t.regs by omega)
 have hlv:R7 l t (Ba l t k order) b regs turns i=if turns=0 then ele (ele b (a:Int)) 0 else ele regs ((ele (Ba l t k order).places (a:Int)+turns - 1) % t.regs):=by unfold R7;rw[ha]
 unfold Fv
 simp only
 rw[Bu (by unfold ln;omega),Av (by omega) (by unfold ln;omega),ha]
 by_cases c:turns=0
 ·rw[show (turns==0)=true from by simpa using c,br_true,Av (by omega) (by unfold ln;omega),Av (by omega) (by unfold ln;omega),Ao (AL8 (by simp;omega)),Aj (by omega) (by omega)]
  rw[if_pos c] at hlv
  rw[←hlv,rm_succ];rfl
 ·rw[show (turns==0)=false from by simpa using c,br_false]
  rw[show (Gx (Ba l t k order)).2.2.2.2.2.2.2=(Ba l t k order).places from rfl]
  rw[Av (by omega) (by unfold ln;omega),Aj (by omega) (by omega),Aj (by omega) (by omega),Tb (by omega) (by omega),bd_ret,Av h0 (by unfold ln;omega),Ao (AL8 (by simp;omega)),Aj (by omega) (by omega)]
  rw[if_neg c] at hlv
  rw[←hlv,rm_succ];rfl
theorem Am5 (hf:l.Fine) (hk:Vc l k) (ho:order.length≤9223372036854775807) (hb:b.length≤9223372036854775807):Hy l t k order b=some (if tb (TakesP l t k order∧Ps l b)=true then (Rz (Ba l t k order) b t.regs.toNat l.body.length,0) else ([],2)):=by
 obtain⟨r,e,hr⟩:=Wz (t:=t) hf hk ho
 unfold Hy
 rw[e,bd_ret]
 by_cases h:TakesP l t k order
 ·rw[hr h,Cc h]
  have hR:=(I0 h.lay).regs
  have hrr:(Ba l t k order).regs=t.regs:=rfl
  unfold Sy
  simp only
  rw[show (!(!true))=true from rfl,bdG_t,Ajo hb,bd_ret]
  by_cases h2:Ps l b
  ·rw[Cc h2,Cc (p:=TakesP l t k order∧Ps l b) ⟨h,h2⟩,if_pos rfl,show ((!true) || (!true))=false from rfl,br_false,Ao (by omega),Ao (AL8 (by omega)),Am6 h.lay h2,bd_ret,Out.on_go]
  ·rw[B0 h2,B0 fun hh:TakesP l t k order∧Ps l b=>h2 hh.2];rfl
 ·rw[B0 h,B0 fun hh:TakesP l t k order∧Ps l b=>h hh.1]
  unfold Sy
  cases r with
  | none=>simp only;rw[Ao trivial];rfl
  | some y=>rfl
theorem Ams (hf:l.Fine) (hk:Vc l k) (ho:order.length≤9223372036854775807) (hb:b.length≤9223372036854775807) {regs:List Int}{turns:Int}:Hx l t k order b regs turns=some (if tb (TakesP l t k order∧Ps l b∧(regs.length:Int)=t.regs)=true then (if (decide (turns<0) || decide (turns>200))=true then ([],3) else ((List.range l.outs.length).map (R7 l t (Ba l t k order) b regs turns),0)) else ([],2)):=by
 obtain⟨r,e,hr⟩:=Wz (t:=t) hf hk ho
 unfold Hx
 rw[e,bd_ret]
 by_cases h:TakesP l t k order
 ·rw[hr h,Cc h]
  unfold Sy
  simp only
  rw[show (!(!true))=true from rfl,bdG_t,Ajo hb,bd_ret]
  by_cases h2:Ps l b
  ·by_cases h3:(regs.length:Int)=t.regs
   ·rw[Cc h2,Cc (p:=TakesP l t k order∧Ps l b∧(regs.length:Int)=t.regs) ⟨h,h2,h3⟩,if_pos rfl,show (((!true) || (!true)) || (ln regs != t.regs))=false from by unfold ln;simp[h3],br_false]
    by_cases h4:0≤turns∧turns≤200
    ·rw[show (decide (turns<0) || decide (turns>200))=false from by simp;omega,br_false,Amt h.lay h2 h3 h4,bd_ret,Out.on_go]
     rfl
    ·have hc:(decide (turns<0) || decide (turns>200))=true:=by rw[Bool.or_eq_true,decide_eq_true_eq,decide_eq_true_eq];omega
     rw[hc];rfl
   ·rw[Cc h2,B0 fun hh:TakesP l t k order∧Ps l b∧(regs.length:Int)=t.regs=>h3 hh.2.2,show (((!true) || (!true)) || (ln regs != t.regs))=true from by unfold ln;simpa using h3]
    rfl
  ·rw[B0 h2,B0 fun hh:TakesP l t k order∧Ps l b∧(regs.length:Int)=t.regs=>h2 hh.2.1];rfl
 ·rw[B0 h,B0 fun hh:TakesP l t k order∧Ps l b∧(regs.length:Int)=t.regs=>h hh.1]
  unfold Sy
  cases r with
  | none=>simp only;rw[Ao trivial];rfl
  | some y=>rfl
end
noncomputable def Air (v_s:Value) (s:List Int):Option (List Int) :=
 br (Wn v_s) (
 some []) (
 ck (AL ([]++s).length 8) <|
 some ([]++s))
noncomputable def Kc (l:List (List Int)):((List (List Int))×Int)→Option (Stp ((List (List Int))×Int) (Empty)):=fun (v1_1,x8_1) =>
 br (decide (x8_1<(ln l))) (
 ck (IX x8_1 (ln l)) <|
 bd (Te (ele l x8_1)) fun x16 =>
 ck (AL (v1_1++[x16]).length 24) <|
 ck (IR (x8_1+1)) <|
 some (.next ((v1_1++[x16]),(x8_1+1)))) (
 some (.brk (v1_1,x8_1)))
noncomputable def Li (l:List (List Int)):Option (List (List Int)) :=
 bd (lp (Kc l) ([],0)) fun o2=>o2.on (fun (v1_1,x8_1) =>
 some v1_1) (fun r=>r.elim)
noncomputable def De (r_past:List (List Int)) (x:Rf) (now:List Int):Option (Int) :=
 br (x.bk==0) (
 ck (IX x.st (ln now)) <|
 some (ele now x.st)) (
 ck (IR (x.bk - 1)) <|
 ck (IX (x.bk - 1) (ln r_past)) <|
 ck (IX x.st (ln (ele r_past (x.bk - 1)))) <|
 some (ele (ele r_past (x.bk - 1)) x.st))
noncomputable def Dq (r_Loop_Logs:List Int) (r_Loop_Body:List Stm) (r_past:List (List Int)) (t:Int):((List Int)×(List (List Int))×Int)→Option (Stp ((List Int)×(List (List Int))×Int) (Empty)):=fun (v1_1,own0v4_1,x14_1) =>
 br (decide (x14_1<(ln r_Loop_Body))) (
 ck (IX x14_1 (ln r_Loop_Body)) <|
 br ((ele r_Loop_Body x14_1).op==1) (
 ck (AL (v1_1++[(ele r_Loop_Body x14_1).n]).length 8) <|
 ck (IR (x14_1+1)) <|
 some (.next ((v1_1++[(ele r_Loop_Body x14_1).n]),own0v4_1,(x14_1+1)))) (
 br ((ele r_Loop_Body x14_1).op==2) (
 ck (AL (v1_1++[t]).length 8) <|
 ck (IR (x14_1+1)) <|
 some (.next ((v1_1++[t]),own0v4_1,(x14_1+1)))) (
 br ((ele r_Loop_Body x14_1).op==3) (
 ck (IX ((ele r_Loop_Body x14_1).ar) (ln own0v4_1)) <|
 ck (IX ((ele r_Loop_Body x14_1).ar) (ln r_Loop_Logs)) <|
 bd (Ih ((ele r_Loop_Body x14_1).sp) ((ele r_Loop_Body x14_1).pl) t (ele r_Loop_Logs ((ele r_Loop_Body x14_1).ar))) fun x44 =>
 ck (IX x44 (ln (ele own0v4_1 ((ele r_Loop_Body x14_1).ar)))) <|
 ck (AL (v1_1++[(ele (ele own0v4_1 ((ele r_Loop_Body x14_1).ar)) x44)]).length 8) <|
 ck (IR (x14_1+1)) <|
 some (.next ((v1_1++[(ele (ele own0v4_1 ((ele r_Loop_Body x14_1).ar)) x44)]),own0v4_1,(x14_1+1)))) (
 br ((ele r_Loop_Body x14_1).op==4) (
 bd (De r_past ((ele r_Loop_Body x14_1).a) v1_1) fun x61 =>
 ck (IX ((ele r_Loop_Body x14_1).ar) (ln own0v4_1)) <|
 ck (IX ((ele r_Loop_Body x14_1).ar) (ln r_Loop_Logs)) <|
 bd (Ih ((ele r_Loop_Body x14_1).sp) ((ele r_Loop_Body x14_1).pl) t (ele r_Loop_Logs ((ele r_Loop_Body x14_1).ar))) fun x72 =>
 ck (IX x72 (ln (ele own0v4_1 ((ele r_Loop_Body x14_1).ar)))) <|
 ck (AL (v1_1++[x61]).length 8) <|
 ck (IR (x14_1+1)) <|
 some (.next ((v1_1++[x61]),(updG own0v4_1 ((ele r_Loop_Body x14_1).ar) x72 x61),(x14_1+1)))) (
 ck (IR ((ele r_Loop_Body x14_1).op - 10)) <|
 bd (De r_past ((ele r_Loop_Body x14_1).a) v1_1) fun x91 =>
 bd (De r_past ((ele r_Loop_Body x14_1).b) v1_1) fun x94 =>
 bd (N9 ((ele r_Loop_Body x14_1).op - 10) x91 x94) fun x97 =>
 ck (AL (v1_1++[x97]).length 8) <|
 ck (IR (x14_1+1)) <|
 some (.next ((v1_1++[x97]),own0v4_1,(x14_1+1)))))))) (
 some (.brk (v1_1,own0v4_1,x14_1)))
noncomputable def Gj (r_Loop_Logs:List Int) (r_Loop_Body:List Stm) (r_Loop_Outs:List Int) (r_past:List (List Int)) (r_memory:List (List Int)) (t:Int):Option (List (List Int)×List (List Int)) :=
 bd (lp (Dq r_Loop_Logs r_Loop_Body r_past t) ([],r_memory,0)) fun o2=>o2.on (fun (v1_1,own0v4_1,x14_1) =>
 ck (SX 0 2 (ln r_past)) <|
 ck (AL (([v1_1]:List (List Int))++(sub r_past 0 2)).length 24) <|
 some ((([v1_1]:List (List Int))++(sub r_past 0 2)),own0v4_1)) (fun r=>r.elim)
noncomputable def J5 (s:Sta) (x37_4:Int):((List Int)×Int)→Option (Stp ((List Int)×Int) (Empty)):=fun (v27_5,x43_5) =>
 br (decide (x43_5<(ln s.bef))) (
 ck (IX x43_5 (ln s.bef)) <|
 ck (IX x37_4 (ln (ele s.bef x43_5))) <|
 ck (AL (v27_5++[(ele (ele s.bef x43_5) x37_4)]).length 8) <|
 ck (IR (x43_5+1)) <|
 some (.next ((v27_5++[(ele (ele s.bef x43_5) x37_4)]),(x43_5+1)))) (
 some (.brk (v27_5,x43_5)))
noncomputable def Lh (s:Sta):((List (List Int))×Int)→Option (Stp ((List (List Int))×Int) (Empty)):=fun (v19_4,x37_4) =>
 br (decide (x37_4<3)) (
 bd (lp (J5 s x37_4) ([],0)) fun o28=>o28.on (fun (v27_5,x43_5) =>
 ck (AL (v19_4++[v27_5]).length 24) <|
 ck (IR (x37_4+1)) <|
 some (.next ((v19_4++[v27_5]),(x37_4+1)))) (fun r=>r.elim)) (
 some (.brk (v19_4,x37_4)))
noncomputable def Lg (l:Lp) (turns:Int):((List (List Int))×(List (List Int))×Int)→Option (Stp ((List (List Int))×(List (List Int))×Int) (Empty)):=fun (r17_5,b18c3_5,x67_5) =>
 br (decide (x67_5<turns)) (
 bd (Gj l.logs l.body l.outs b18c3_5 r17_5 x67_5) fun x33 =>
 ck (IR (x67_5+1)) <|
 some (.next (x33.2,x33.1,(x67_5+1)))) (
 some (.brk (r17_5,b18c3_5,x67_5)))
noncomputable def J4 (l:Lp) (b18c3_5:List (List Int)):((List Int)×Int)→Option (Stp ((List Int)×Int) (Empty)):=fun (v32_6,x82_6) =>
 br (decide (x82_6<(ln l.outs))) (
 ck (IX x82_6 (ln l.outs)) <|
 ck (IX 0 (ln b18c3_5)) <|
 ck (IX (ele l.outs x82_6) (ln (ele b18c3_5 0))) <|
 ck (AL (v32_6++[(ele (ele b18c3_5 0) (ele l.outs x82_6))]).length 8) <|
 ck (IR (x82_6+1)) <|
 some (.next ((v32_6++[(ele (ele b18c3_5 0) (ele l.outs x82_6))]),(x82_6+1)))) (
 some (.brk (v32_6,x82_6)))
noncomputable def I2 (l:Lp) (s:Sta) (turns:Int):Option (Rst×Int) :=
 bd (Kg l s) fun x4 =>
 br (!x4) (
 some ((Rst.mk [] []),2)) (
 br ((decide (turns<0)) || (decide (turns>200))) (
 some ((Rst.mk [] []),3)) (
 bd (Li s.mem) fun x13 =>
 bd (lp (Lh s) ([],0)) fun o20=>o20.on (fun (v19_4,x37_4) =>
 bd (lp (Lg l turns) (x13,v19_4,0)) fun o26=>o26.on (fun (r17_5,b18c3_5,x67_5) =>
 bd (lp (J4 l b18c3_5) ([],0)) fun o33=>o33.on (fun (v32_6,x82_6) =>
 some ((Rst.mk v32_6 r17_5),0)) (fun r=>r.elim)) (fun r=>r.elim)) (fun r=>r.elim)))
noncomputable def Ip (a:List (List Int)) (b:List (List Int)):Int→Option (Stp (Int) (Bool)):=fun i5_1 =>
 br (decide (i5_1<(ln a))) (
 ck (IX i5_1 (ln a)) <|
 ck (IX i5_1 (ln b)) <|
 bd (Hj (ele a i5_1) (ele b i5_1)) fun x25 =>
 br (!x25) (
 some (.ret false)) (
 ck (IR (i5_1+1)) <|
 some (.next (i5_1+1)))) (
 some (.brk i5_1))
noncomputable def Lm (a:List (List Int)) (b:List (List Int)):Option (Bool) :=
 br ((ln a) != (ln b)) (
 some false) (
 bd (lp (Ip a b) 0) fun o4=>o4.on (fun i5_1 =>
 some true) (fun r=>some r))
noncomputable def Pc (l:List (List Int)):((List (List Int))×Int)→Option (Stp ((List (List Int))×Int) (Empty)):=fun (v1_1,i4_1) =>
 br (decide (i4_1<(ln l))) (
 ck (IX i4_1 (ln l)) <|
 ck (AL ([]++(ele l i4_1)).length 8) <|
 ck (AL (v1_1++[([]++(ele l i4_1))]).length 24) <|
 ck (IR (i4_1+1)) <|
 some (.next ((v1_1++[([]++(ele l i4_1))]),(i4_1+1)))) (
 some (.brk (v1_1,i4_1)))
noncomputable def Re (l:List (List Int)):Option (List (List Int)) :=
 bd (lp (Pc l) ([],0)) fun o2=>o2.on (fun (v1_1,i4_1) =>
 some v1_1) (fun r=>r.elim)
def FitsP (l:Lp) (s:Sta):Prop:=LoopOk l∧s.bef.length=l.body.length∧s.mem.length=l.logs.length∧(∀ i,i<s.bef.length→(s.bef.getD i []).length=3)∧(∀ i,i<s.mem.length→((s.mem.getD i []).length:Int)=2 ^ (l.logs.getD i 0).toNat)
theorem Ael (l:Lp) (s:Sta) (hf:l.Fine) (hb:RowsOk s.bef) (hm:RowsOk s.mem):Kg l s=some (tb (FitsP l s)):=by
 have hbl:=hb.len;have hml:=hm.len
 have hlb:=hf.lbody;have hll:=hf.llogs
 rw[F4] at hbl hml hlb hll
 unfold Kg
 rw[Wj l hf,bd_ret]
 by_cases h0:LoopOk l∧s.bef.length=l.body.length∧s.mem.length=l.logs.length
 ·rw[show (((!tb (LoopOk l)) || (ln s.bef != ln l.body)) || (ln s.mem != ln l.logs))=false from by
   rw[Cc h0.1];unfold ln;simp only[Bool.not_true,Bool.false_or,Bool.or_eq_false_iff,bne_eq_false_iff_eq];omega,br_false]
  rcases Mt (f:=Hg s) (n:=s.bef.length) (p:=fun i=>(s.bef.getD i []).length=3) (fun i hi _=>by
    have e:Hg s i=br (!tb ((s.bef.getD i []).length=3)) (some (.ret false)) (some (.next ((i:Int)+1))):=by
     unfold Hg
     rw[Bu (by unfold ln;omega),Av (by omega) (by unfold ln;omega),Aj (by omega) (by omega),Adf,neB]
     rw[E7 (show ln (s.bef.getD i [])=3↔(s.bef.getD i []).length=3 from by unfold ln;omega)]
    rw[e]
    exact⟨fun h=>by rw[Cc h];rfl,fun h=>by rw[B0 h];rfl⟩) (by unfold Hg;exact Bt (by unfold ln;omega)) with ⟨h1,e1⟩ | ⟨h1,e1⟩
  ·rw[e1,bd_ret,Out.on_go]
   rcases Mt (f:=Hf l s) (n:=s.mem.length) (p:=fun i=>((s.mem.getD i []).length:Int)=2 ^ (l.logs.getD i 0).toNat) (fun i hi _=>by
     have hlg:=h0.1.log i (by omega)
     have e:Hf l s i=br (!tb (((s.mem.getD i []).length:Int)=2 ^ (l.logs.getD i 0).toNat)) (some (.ret false)) (some (.next ((i:Int)+1))):=by
      unfold Hf
      rw[Bu (by unfold ln;omega),Av (by omega) (by unfold ln;omega),Av (by omega) (by unfold ln;omega),Ana,Ao hlg.1,Aj (by omega) (by omega),Adf,neB]
      have hs:shlD 1 (l.logs.getD i 0)=2 ^ (l.logs.getD i 0).toNat:=V0 _ hlg.1 hlg.2
      rw[hs]
      rfl
     rw[e]
     exact⟨fun h=>by rw[Cc h];rfl,fun h=>by rw[B0 h];rfl⟩) (by unfold Hf;exact Bt (by unfold ln;omega)) with ⟨h2,e2⟩ | ⟨h2,e2⟩
   ·rw[e2,bd_ret,Out.on_go,Cc ⟨h0.1,h0.2.1,h0.2.2,h1,h2⟩]
   ·rw[e2,bd_ret,Out.on_ret,B0 fun h=>h2 h.2.2.2.2]
  ·rw[e1,bd_ret,Out.on_ret,B0 fun h=>h1 h.2.2.2.1]
 ·have:(((!tb (LoopOk l)) || (ln s.bef != ln l.body)) || (ln s.mem != ln l.logs))=true:=by
   cases hc:(((!tb (LoopOk l)) || (ln s.bef != ln l.body)) || (ln s.mem != ln l.logs)) with
   | true=>rfl
   | false =>
    unfold ln at hc
    simp only[Bool.or_eq_false_iff,bne_eq_false_iff_eq,Bool.not_eq_false'] at hc
    exact absurd ⟨Aab.1 hc.1.1,by omega,by omega⟩ h0
  rw[this,br_true,B0 fun h=>h0 ⟨h.1,h.2.1,h.2.2.1⟩]
def Po (past:List (List Int)) (now:List Int) (x:Rf):Int:=if x.bk=0 then ele now x.st else ele (ele past (x.bk - 1)) x.st
def Pt (logs:List Int) (past:List (List Int)) (t:Int) (p:List Int×List (List Int)) (s:Stm):List Int×List (List Int) :=
 if s.op=1 then (p.1++[s.n],p.2)
 else if s.op=2 then (p.1++[t],p.2)
 else if s.op=3 then (p.1++[ele (ele p.2 s.ar) (idx s.sp s.pl t (ele logs s.ar))],p.2)
 else if s.op=4 then (p.1++[Po past p.1 s.a],updG p.2 s.ar (idx s.sp s.pl t (ele logs s.ar)) (Po past p.1 s.a))
 else (p.1++[opV (s.op - 10) (Po past p.1 s.a) (Po past p.1 s.b)],p.2)
def Pj (l:Lp) (past mem:List (List Int)) (t:Int):List Int×List (List Int):=l.body.foldl (Pt l.logs past t) ([],mem)
def Ye (bef:List (List Int)) (j:Nat):List Int:=bef.map fun b=>b.getD j 0
def Ej (l:Lp) (s:Sta):Nat→List (List Int)×List (List Int)
 | 0=>([Ye s.bef 0,Ye s.bef 1,Ye s.bef 2],s.mem)
 | t+1=>((Pj l (Ej l s t).1 (Ej l s t).2 t).1::(Ej l s t).1,(Pj l (Ej l s t).1 (Ej l s t).2 t).2)
def Pv (l:Lp) (s:Sta) (t:Nat):List Int:=l.outs.map fun k=>ele (ele (Ej l s t).1 0) k
structure MemOk (l:Lp) (m:List (List Int)):Prop where
 len:m.length=l.logs.length
 row:∀ i:Nat,i<m.length→((m.getD i []).length:Int)=2 ^ (l.logs.getD i 0).toNat
 rng:∀ r∈m,∀ x∈r,InR x
structure RowOk (l:Lp) (r:List Int):Prop where
 len:r.length=l.body.length
 rng:∀ x∈r,InR x
theorem Q0 {r:List Int} (h:∀ x∈r,InR x) (i:Int):InR (ele r i):=W7 h (by unfold InR;decide) i.toNat
theorem Qh {m:List (List Int)} (h:∀ r∈m,∀ x∈r,InR x) (i j:Int):InR (ele (ele m i) j):=Q0 (W7 (p:=fun r:List Int=>∀ x∈r,InR x) h (fun x hx=>by cases hx) i.toNat) j
theorem Afw {α:Type}{l:List α}{i:Int}{z x:α} (h:x∈upd l i z):x∈l∨x=z:=List.mem_or_eq_of_mem_set h
theorem Am9 {m:List (List Int)}{i x:Int} (h:x∈ele m i):∃ r∈m,x∈r:=by
 unfold ele at h
 by_cases hi:i.toNat<m.length
 ·rw[List.getD_eq_getElem?_getD,List.getElem?_eq_getElem hi] at h
  exact⟨_,List.getElem_mem hi,h⟩
 ·rw[List.getD_eq_getElem?_getD,List.getElem?_eq_none (by omega)] at h
  cases h
theorem MemOk.updG {l:Lp}{m:List (List Int)} (h:MemOk l m) (i j z:Int) (hz:InR z):MemOk l (updG m i j z):=by
 refine⟨by unfold Rd.updG;rw[Ck];exact h.len,fun k hk=>?_,fun r hr x hx=>?_⟩
 ·unfold Rd.updG at hk ⊢
  rw[Ck] at hk
  rw[Jq]
  split
  ·rename_i hh
   rw[Ck,Alb,hh.1];exact h.row k hk
  ·exact h.row k hk
 ·unfold Rd.updG at hr
  rcases Afw hr with hr | rfl
  ·exact h.rng r hr x hx
  ·rcases Afw hx with hx | rfl
   ·obtain⟨r,hr,hx⟩:=Am9 hx
    exact h.rng r hr x hx
   ·exact hz
theorem Acs {past:List (List Int)}{now:List Int} (hp:∀ r∈past,∀ x∈r,InR x) (hn:∀ x∈now,InR x) (x:Rf):InR (Po past now x):=by
 unfold Po
 split
 ·exact Q0 hn _
 ·exact Qh hp _ _
theorem Afv (op a b:Int):InR (opV op a b):=Apg op a b
theorem Qb {r:List Int}{v:Int} (h:∀ x∈r,InR x) (hv:InR v):∀ x∈r++[v],InR x:=fun x hx=>by
 rcases List.mem_append.1 hx with h' | h'
 ·exact h x h'
 ·simp at h';subst h';exact hv
theorem Aj7 {l:Lp} (hf:l.Fine) {past:List (List Int)}{t:Int} (ht:InR t) {p:List Int×List (List Int)} (hp:∀ r∈past,∀ x∈r,InR x) (h1:∀ x∈p.1,InR x) (h2:MemOk l p.2) {s:Stm} (hs:s.InR) :
  (Pt l.logs past t p s).1.length=p.1.length+1∧(∀ x∈(Pt l.logs past t p s).1,InR x)∧MemOk l (Pt l.logs past t p s).2:=by
 unfold Pt
 split
 ·exact⟨by simp,Qb h1 hs.2.2.2.2.2.2.2.2,h2⟩
 split
 ·exact⟨by simp,Qb h1 ht,h2⟩
 split
 ·exact⟨by simp,Qb h1 (Qh h2.rng _ _),h2⟩
 split
 ·exact⟨by simp,Qb h1 (Acs hp h1 _),h2.updG _ _ _ (Acs hp h1 _)⟩
 ·exact⟨by simp,Qb h1 (Afv _ _ _),h2⟩
def Jj (l:Lp) (past mem:List (List Int)) (t:Int) (i:Nat):List Int×List (List Int):=(l.body.take i).foldl (Pt l.logs past t) ([],mem)
theorem Ib {l:Lp}{past mem:List (List Int)}{t:Int}{i:Nat} (h:i<l.body.length):Jj l past mem t (i+1)=Pt l.logs past t (Jj l past mem t i) (ele l.body i):=by
 unfold Jj
 rw[Eu h,List.foldl_append]
 rfl
theorem Tk {l:Lp} (hf:l.Fine) {past mem:List (List Int)}{t:Int} (ht:InR t) (hp:∀ r∈past,∀ x∈r,InR x) (hm:MemOk l mem):∀ i,i≤l.body.length→(Jj l past mem t i).1.length=i∧(∀ x∈(Jj l past mem t i).1,InR x)∧MemOk l (Jj l past mem t i).2
 | 0,_=>⟨rfl,fun x hx=>(by cases hx),hm⟩
 | i+1,h=>by
  obtain⟨h1,h2,h3⟩:=Tk hf ht hp hm i (by omega)
  rw[Ib (by omega)]
  have:=Aj7 hf ht hp h2 h3 (O5 (p:=Stm.InR) hf.rbody (i:=i) (by omega))
  exact⟨by rw[this.1,h1],this.2⟩
theorem Lf (l:Lp) (past mem:List (List Int)) (t:Int):Pj l past mem t=Jj l past mem t l.body.length:=by unfold Pj Jj;rw[List.take_length]
theorem Aft {l:Lp}{past:List (List Int)}{now:List Int}{x:Rf}{k:Nat} (hx:RefOk l.body.length k x) (hn:now.length=k) (hk:k≤l.body.length) (hb:l.body.length≤9223372036854775807) (h3:3≤past.length) (hp:∀ r∈past,r.length=l.body.length):De past x now=some (Po past now x):=by
 obtain⟨a1,a2,a3,a4,a5⟩:=hx
 unfold De Po
 rw[Px]
 simp only[beq_iff_eq]
 by_cases h:x.bk=0
 ·rw[if_pos h,if_pos h,Av a3 (by unfold ln;have:=a4 h;omega)]
 ·have hr:(ele past (x.bk - 1)).length=l.body.length:=by
   have:=O5 (p:=fun r:List Int=>r.length=l.body.length) hp (i:=(x.bk - 1).toNat) (by omega)
   rwa [show (((x.bk - 1).toNat:Nat):Int)=x.bk - 1 from by omega] at this
  rw[if_neg h,if_neg h,Aj (by omega) (by omega),Av (by omega) (by unfold ln;omega),Av a3 (by unfold ln;have:=a5 h;omega)]
theorem Apl {step plus t log:Int} (h0:0≤log) (h5:log≤5):0≤idx step plus t log∧idx step plus t log<2 ^ log.toNat:=by
 have hp:=Hm log.toNat (by omega)
 unfold idx
 split
 ·exact⟨Int.emod_nonneg _ (by omega),Int.emod_lt_of_pos _ (by omega)⟩
 ·omega
theorem O3 {l:Lp} (hl:LoopOk l) {m:List (List Int)} (hm:MemOk l m) {s:Stm} (hw:Ha l.logs.length s) (t:Int) :
  IX s.ar (ln m)∧IX s.ar (ln l.logs)∧IX (idx s.sp s.pl t (ele l.logs s.ar)) (ln (ele m s.ar)):=by
 have hml:=hm.len
 obtain⟨w1,w2,_⟩:=hw
 have e:((s.ar.toNat:Nat):Int)=s.ar:=by omega
 have hlg:=hl.log s.ar.toNat (by omega)
 have hr:=hm.row s.ar.toNat (by omega)
 have hi:=Apl (step:=s.sp) (plus:=s.pl) (t:=t) hlg.1 hlg.2
 refine⟨⟨w1,by unfold ln;omega⟩,⟨w1,by unfold ln;omega⟩,hi.1,?_⟩
 have:ln (ele m s.ar)=2 ^ (l.logs.getD s.ar.toNat 0).toNat:=hr
 rw[this]
 exact hi.2
theorem Ag0 {l:Lp} (hl:LoopOk l) (hf:l.Fine) {past mem:List (List Int)}{t:Int} (ht:InR t) (hp:∀ r∈past,RowOk l r) (h3:3≤past.length) (hm:MemOk l mem) (i:Nat) (hi:i<l.body.length) :
  Dq l.logs l.body past t ((Jj l past mem t i).1,(Jj l past mem t i).2,i)=some (.next ((Jj l past mem t (i+1)).1,(Jj l past mem t (i+1)).2,((i+1:Nat):Int))):=by
 obtain⟨p1,p2,p3⟩:=Tk hf ht (fun r hr=>(hp r hr).rng) hm i (by omega)
 rw[Ib hi]
 generalize hP:Jj l past mem t i=p at p1 p2 p3
 have hn16:=hl.2.2.1
 have hso:=hl.stm i hi
 rw[show l.body.getD i Stm.zero=ele l.body (i:Int) from rfl] at hso
 generalize hs:ele l.body (i:Int)=s at hso
 obtain⟨q1,q2,q3⟩:=hso
 have hal:∀ v:Int,AL (p.1++[v]).length 8:=fun v=>AL8 (by simp;omega)
 have ra:(s.op=4∨s.op>10)→De past s.a p.1=some (Po past p.1 s.a):=fun h=>Aft (q1 h) p1 (by omega) (by omega) h3 (fun r hr=>(hp r hr).len)
 have rb:s.op>10→De past s.b p.1=some (Po past p.1 s.b):=fun h=>Aft (q2 h) p1 (by omega) (by omega) h3 (fun r hr=>(hp r hr).len)
 have hix:IX (i:Int) (ln l.body):=⟨by omega,by unfold ln;omega⟩
 have hsc:((i+1:Nat):Int)=(i:Int)+1:=rfl
 unfold Dq Pt
 simp only
 rw[Bu (by unfold ln;omega),Ao hix,hs,hsc]
 by_cases o1:s.op=1
 ·rw[show (s.op==1)=true from by simpa using o1,br_true,Ao (hal _),Aj (by omega) (by omega),if_pos o1]
 rw[show (s.op==1)=false from by simpa using o1,br_false,if_neg o1]
 by_cases o2:s.op=2
 ·rw[show (s.op==2)=true from by simpa using o2,br_true,Ao (hal _),Aj (by omega) (by omega),if_pos o2]
 rw[show (s.op==2)=false from by simpa using o2,br_false,if_neg o2]
 by_cases o3:s.op=3
 ·have hw:Ha l.logs.length s:=by rcases q3 with h | h | h | h | h <;> first | exact h.2.2.1 | omega
  obtain⟨w1,w2,w3⟩:=O3 hl p3 hw t
  rw[show (s.op==3)=true from by simpa using o3,br_true,Ao w1,Ao w2,Qn,bd_ret,Ao w3,Ao (hal _),Aj (by omega) (by omega),if_pos o3]
 rw[show (s.op==3)=false from by simpa using o3,br_false,if_neg o3]
 by_cases o4:s.op=4
 ·have hw:Ha l.logs.length s:=by rcases q3 with h | h | h | h | h <;> first | exact h.2.2.1 | omega
  obtain⟨w1,w2,w3⟩:=O3 hl p3 hw t
  rw[show (s.op==4)=true from by simpa using o4,br_true,ra (.inl o4),bd_ret,Ao w1,Ao w2,Qn,bd_ret,Ao w3,Ao (hal _),Aj (by omega) (by omega),if_pos o4]
 have h10:11≤s.op∧s.op≤18:=by omega
 rw[show (s.op==4)=false from by simpa using o4,br_false,if_neg o4,Aj (by omega) (by omega),ra (.inr (by omega)),bd_ret,rb (by omega),bd_ret,Acy,bd_ret,Ao (hal _),Aj (by omega) (by omega)]
theorem Y7 {l:Lp} (hl:LoopOk l) (hf:l.Fine) {past mem:List (List Int)}{t:Int} (ht:InR t) (hp:∀ r∈past,RowOk l r) (h3:3≤past.length) (hm:MemOk l mem):∀ (m i:Nat),i+m=l.body.length →
  lp (Dq l.logs l.body past t) ((Jj l past mem t i).1,(Jj l past mem t i).2,(i:Int))=some (.go ((Pj l past mem t).1,(Pj l past mem t).2,(l.body.length:Int)))
 | 0,i,h=>by
  have hi:i=l.body.length:=by omega
  subst hi
  rw[Lf]
  refine C0 ?_
  unfold Dq
  exact Bt (by unfold ln;omega)
 | m+1,i,h=>Cr (Ag0 hl hf ht hp h3 hm i (by omega)) (Y7 hl hf ht hp h3 hm m (i+1) (by omega))
theorem Aj1 {l:Lp} (hl:LoopOk l) (hf:l.Fine) {past mem:List (List Int)}{t:Int} (ht:InR t) (hp:∀ r∈past,RowOk l r) (h3:past.length=3) (hm:MemOk l mem) :
  Gj l.logs l.body l.outs past mem t=some ((Pj l past mem t).1::past.take 2,(Pj l past mem t).2):=by
 unfold Gj
 have h:=Y7 hl hf ht hp (by omega) hm l.body.length 0 (by omega)
 rw[show Jj l past mem t 0=([],mem) from rfl,show (((0:Nat)):Int)=0 from rfl] at h
 rw[h,bd_ret,Out.on_go]
 simp only
 rw[Wg (by omega) (by omega) (by unfold ln;omega),Ao (Aip (by simp[Rd.sub];omega))]
 rfl
theorem Ajw {m:List (List Int)} (h1:m.length≤100) (h2:∀ r∈m,r.length≤100000):Li m=some m:=by
 have e:lp (Kc m) ([],0)=some (.go ((List.range m.length).map (fun i:Nat=>ele m (i:Int)),(m.length:Int))):=by
  refine Qe (fun i hi=>?_) ?_
  ·have hr:=O5 (p:=fun r:List Int=>r.length≤100000) h2 hi
   unfold Kc Te
   simp only
   rw[Bu (by unfold ln;omega),Av (by omega) (by unfold ln;omega),Ao (AL8 hr),bd_ret,Ao (Aip (by simp;omega)),Aj (by omega) (by omega)]
  ·unfold Kc
   exact Bt (by unfold ln;omega)
 unfold Li
 rw[e,bd_ret,Out.on_go,Oi]
theorem V1 {m:List (List Int)} (h1:m.length≤100) (h2:∀ r∈m,r.length≤100000):Re m=some m:=by
 have e:lp (Pc m) ([],0)=some (.go ((List.range m.length).map (fun i:Nat=>ele m (i:Int)),(m.length:Int))):=by
  refine Qe (fun i hi=>?_) ?_
  ·have hr:=O5 (p:=fun r:List Int=>r.length≤100000) h2 hi
   unfold Pc
   simp only[List.nil_append]
   rw[Bu (by unfold ln;omega),Av (by omega) (by unfold ln;omega),Ao (AL8 hr),Ao (Aip (by simp;omega)),Aj (by omega) (by omega)]
  ·unfold Pc
   exact Bt (by unfold ln;omega)
 unfold Re
 rw[e,bd_ret,Out.on_go,Oi]
structure StaOk (l:Lp) (s:Sta):Prop where
 loop:LoopOk l
 len:s.bef.length=l.body.length
 bef:∀ i:Nat,i<s.bef.length→(s.bef.getD i []).length=3
 rbef:∀ r∈s.bef,∀ x∈r,InR x
 mem:MemOk l s.mem
theorem FitsP.ok {l:Lp}{s:Sta} (h:FitsP l s) (hb:RowsOk s.bef) (hm:RowsOk s.mem):StaOk l s:=⟨h.1,h.2.1,h.2.2.2.1,hb.rng,⟨h.2.2.1,h.2.2.2.2,hm.rng⟩⟩
theorem MemOk.small {l:Lp} (hl:LoopOk l) {m:List (List Int)} (h:MemOk l m):m.length≤100∧∀ r∈m,r.length≤100000:=by
 have:=h.len;have:=hl.1
 refine⟨by omega,fun r hr=>?_⟩
 obtain⟨i,hi,rfl⟩:=List.getElem_of_mem hr
 have h1:=h.row i hi
 have h2:=hl.log i (by omega)
 have h3:=Hm (l.logs.getD i 0).toNat (by omega)
 rw[List.getD_eq_getElem?_getD,List.getElem?_eq_getElem hi] at h1
 simp only[Option.getD_some] at h1
 omega
theorem Apr {l:Lp}{s:Sta} (h:StaOk l s) (j:Nat):RowOk l (Ye s.bef j):=by
 refine⟨by unfold Ye;rw[List.length_map,h.len],fun x hx=>?_⟩
 obtain⟨r,hr,rfl⟩:=List.mem_map.1 hx
 exact W7 (h.rbef r hr) (by unfold InR;decide) j
theorem R5 {l:Lp} (hf:l.Fine) {s:Sta} (h:StaOk l s):∀ t:Nat,t≤100000→(∀ r∈(Ej l s t).1,RowOk l r)∧MemOk l (Ej l s t).2∧(Ej l s t).1.length=t+3
 | 0,_=>⟨fun r hr=>by
   simp only[Ej,List.mem_cons,List.not_mem_nil,or_false] at hr
   rcases hr with rfl | rfl | rfl <;> exact Apr h _,h.mem,rfl⟩
 | t+1,ht=>by
  obtain⟨h1,h2,h3⟩:=R5 hf h t (by omega)
  have hp:=Tk hf (t:=(t:Int)) (by unfold InR;omega) (fun r hr=>(h1 r hr).rng) h2 l.body.length (Nat.le_refl _)
  rw[←Lf] at hp
  refine⟨fun r hr=>?_,hp.2.2,by simp[Ej,h3]⟩
  rcases List.mem_cons.1 hr with rfl | hr
  ·exact⟨hp.1,hp.2.1⟩
  ·exact h1 r hr
theorem Wv {l:Lp}{past:List (List Int)}{now:List Int}{x:Rf}{k:Int} (hx:RefOk l.body.length k x):Po (past.take 3) now x=Po past now x:=by
 obtain⟨a1,a2,_⟩:=hx
 unfold Po
 split
 ·rfl
 ·congr 1
  unfold ele
  rw[List.getD_eq_getElem?_getD,List.getElem?_take,if_pos (by omega),List.getD_eq_getElem?_getD]
theorem Zf {l:Lp} (hl:LoopOk l) (past mem:List (List Int)) (t:Int):∀ i,i≤l.body.length→Jj l (past.take 3) mem t i=Jj l past mem t i
 | 0,_=>rfl
 | i+1,h=>by
  rw[Ib (by omega),Ib (by omega),Zf hl past mem t i (by omega)]
  obtain⟨q1,q2,q3⟩:=hl.stm i (by omega)
  rw[show l.body.getD i Stm.zero=ele l.body (i:Int) from rfl] at q1 q2 q3
  unfold Pt
  split
  ·rfl
  split
  ·rfl
  split
  ·rfl
  split
  ·rw[Wv (q1 (.inl ‹_›))]
  ·have:(ele l.body (i:Int)).op>10:=by rcases q3 with h | h | h | h | h <;> omega
   rw[Wv (q1 (.inr this)),Wv (q2 this)]
theorem Agz {l:Lp} (hl:LoopOk l) (past mem:List (List Int)) (t:Int):Pj l (past.take 3) mem t=Pj l past mem t:=by rw[Lf,Lf,Zf hl _ _ _ _ (Nat.le_refl _)]
theorem Run_s {l:Lp}{s:Sta} (hf:l.Fine) (h:StaOk l s) (hfit:Kg l s=some true) (n:Nat) (hn:n≤200):I2 l s n=some (⟨Pv l s n,(Ej l s n).2⟩,0):=by
 have hsm:=h.mem.small h.loop
 have hb16:=h.loop.2.2.1
 have e1:lp (Lh s) ([],0)=some (.go ((Ej l s 0).1.take 3,3)):=by
  refine Qe (n:=3) (h:=fun j=>Ye s.bef j) (fun j hj=>?_) ?_
  ·have inner:lp (J5 s j) ([],0)=some (.go (Ye s.bef j,(s.bef.length:Int))):=by
    have e:=Qe (f:=J5 s j) (n:=s.bef.length) (h:=fun i:Nat=>(ele s.bef (i:Int)).getD j 0) (fun i hi=>?_) ?_
    ·rw[Sj s.bef (fun b=>b.getD j 0)] at e
     exact e
    ·have h3:=h.bef i hi
     have hl:=h.len
     rw[show s.bef.getD i []=ele s.bef (i:Int) from rfl] at h3
     unfold J5
     simp only
     rw[Bu (by unfold ln;omega),Av (by omega) (by unfold ln;omega),Av (by omega) (by unfold ln;omega),Ao (AL8 (by simp;omega)),Aj (by omega) (by omega)]
     rfl
    ·unfold J5
     exact Bt (by unfold ln;omega)
   unfold Lh
   simp only
   rw[Bu (by omega),inner,bd_ret,Out.on_go]
   simp only
   rw[Ao (Aip (by simp;omega)),Aj (by omega) (by omega)]
  ·unfold Lh
   exact Bt (by omega)
 have key:∀ m i:Nat,i+m=n→lp (Lg l n) ((Ej l s i).2,(Ej l s i).1.take 3,(i:Int))=some (.go ((Ej l s n).2,(Ej l s n).1.take 3,(n:Int))):=by
  intro m
  induction m with
  | zero =>
   intro i hi
   have:i=n:=by omega
   subst this
   refine C0 ?_
   unfold Lg
   exact Bt (by omega)
  | succ m ih =>
   intro i hi
   refine Cr ?_ (ih (i+1) (by omega))
   obtain⟨h1,h2,h3⟩:=R5 hf h i (by omega)
   unfold Lg
   simp only
   rw[Bu (by omega),Aj1 h.loop hf (by unfold InR;omega) (fun r hr=>h1 r (List.mem_of_mem_take hr)) (by rw[List.length_take];omega) h2,bd_ret,Aj (by omega) (by omega),Agz h.loop]
   simp only[List.take_take,Ej]
   rfl
 have e2:=key n 0 (by omega)
 rw[show ((0:Nat):Int)=0 from rfl,show (Ej l s 0).2=s.mem from rfl] at e2
 obtain⟨h1,h2,h3⟩:=R5 hf h n (by omega)
 have e0:ele ((Ej l s n).1.take 3) 0=ele (Ej l s n).1 0:=by
  unfold ele
  rw[List.getD_eq_getElem?_getD,List.getElem?_take,if_pos (by decide),List.getD_eq_getElem?_getD]
 have hlen0:(ele (Ej l s n).1 0).length=l.body.length:=by
  have:=O5 (p:=fun r:List Int=>r.length=l.body.length) (fun r hr=>(h1 r hr).len) (i:=0) (by omega)
  exact this
 have e3:lp (J4 l ((Ej l s n).1.take 3)) ([],0)=some (.go (Pv l s n,(l.outs.length:Int))):=by
  have e:=Qe (f:=J4 l ((Ej l s n).1.take 3)) (n:=l.outs.length) (h:=fun i:Nat=>ele (ele (Ej l s n).1 0) (ele l.outs (i:Int))) (fun i hi=>?_) ?_
  ·rw[Sj l.outs (fun k=>ele (ele (Ej l s n).1 0) k)] at e
   exact e
  ·have ho:=h.loop.out i hi
   rw[show l.outs.getD i 0=ele l.outs (i:Int) from rfl] at ho
   have h16:=Qc h.loop
   unfold J4
   simp only
   rw[Bu (by unfold ln;omega),Av (by omega) (by unfold ln;omega),Av (by omega) (by unfold ln;rw[List.length_take];omega),e0,Av ho.1 (by unfold ln;rw[hlen0];exact ho.2),Ao (AL8 (by simp;omega)),Aj (by omega) (by omega)]
  ·unfold J4
   exact Bt (by unfold ln;omega)
 unfold I2
 rw[hfit,bd_ret,Bool.not_true,br_false,show (decide ((n:Int)<0) || decide ((n:Int)>200))=false from by simp;omega,br_false,Ajw hsm.1 hsm.2,bd_ret,e1,bd_ret,Out.on_go]
 simp only
 rw[e2,bd_ret,Out.on_go]
 simp only
 rw[e3,bd_ret,Out.on_go]
end Go.Rd
end
section
namespace Go.Rd
section
variable {P : Program} {n : Nat} {σ : Env} {M : Nat → Prop} {w0 : World} {H : List Res} {C : World → Prop} {rest l : List Oper} {ops : Array Oper} {Q : Exit → Act → World → Prop} {d id : Nat} {v : Value} {x : Operand} {T U : TypeId} {pos : String} {after : Array Edge} {c : Op} {y : Code}
theorem wq (h:Nat.blt d n=true) (hq:QV P ⟨some d,c,T,pos,after,none⟩ σ (Own M w0 H) v) (kk:WK n (wpList P ops Q rest) ((d,(true,v))::σ) (Own M w0 H)):WK n (wpList P ops Q (⟨some d,c,T,pos,after,none⟩::rest)) σ (Own M w0 H):=WL.q rfl rfl h hq kk
theorem wm (h:(Nat.blt d n,σ.ev x)=(true,some (true,v))) (kk:WK n (wpList P ops Q rest) ((d,(true,v))::σ) (Own M w0 H)):WK n (wpList P ops Q (⟨some d,.move x,T,pos,after,none⟩::rest)) σ (Own M w0 H) :=
 wq (congrArg Prod.fst h) (QV.move (congrArg Prod.snd h) rfl) kk
theorem wa (h:(Nat.blt d n,σ.ev x)=(true,some (true,v))) (kk:WK n (wpList P ops Q rest) ((d,(true,v))::σ) (Own M w0 H)):WK n (wpList P ops Q (⟨some d,.assign x,T,pos,after,none⟩::rest)) σ (Own M w0 H) :=
 wq (congrArg Prod.fst h) (QV.assign (congrArg Prod.snd h) rfl) kk
theorem wf {f off:Nat}{q:Addr} (hT:Bw P U f off) (h:(Nat.blt d n,σ.ev x)=(true,some (true,.pointer (some q)))) (kk:WK n (wpList P ops Q rest) ((d,(true,.pointer (some (q.add off))))::σ) (Own M w0 H)):WK n (wpList P ops Q (⟨some d,.fieldAddr U x f,T,pos,after,none⟩::rest)) σ (Own M w0 H) :=
 wq (congrArg Prod.fst h) (QV.fieldAddr hT (congrArg Prod.snd h) rfl) kk
theorem wl {q:Addr} (hT:K3 P U) (h:(Nat.blt d n,σ.ev x)=(true,some (true,.pointer (some q)))) (hc:∀ w,Own M w0 H w→w.cell? q=some v) (kk:WK n (wpList P ops Q rest) ((d,(true,v))::σ) (Own M w0 H)):WK n (wpList P ops Q (⟨some d,.load U x,T,pos,after,none⟩::rest)) σ (Own M w0 H) :=
 wq (congrArg Prod.fst h) (QV.load hT (congrArg Prod.snd h) rfl hc) kk
theorem wz (i:Nat) {m fuel:Nat}{S:World→Prop} [hQ:POk Q] (hi:ops[i]?=some ⟨some d,c,T,pos,after,none⟩) (hn:Nat.blt d n=true) (hq:QV P ⟨some d,c,T,pos,after,none⟩ σ S v)
  (kk:WD P n ops Q S fuel (G9 (i+1) m) ((d,(true,v))::σ) (Own M w0 H)) (ht:Nu ops i m=true:=by kernel_rfl):WD P n ops Q S (fuel+1) (G9 i m) σ (Own M w0 H):=WD.q i hi ht rfl rfl hn hq kk
theorem zm (i:Nat) {m fuel:Nat}{S:World→Prop} [hQ:POk Q] (hi:ops[i]?=some ⟨some d,.move x,T,pos,after,none⟩) (h:(Nat.blt d n,σ.ev x)=(true,some (true,v)))
  (kk:WD P n ops Q S fuel (G9 (i+1) m) ((d,(true,v))::σ) (Own M w0 H)) (ht:Nu ops i m=true:=by kernel_rfl):WD P n ops Q S (fuel+1) (G9 i m) σ (Own M w0 H):=WD.q i hi ht rfl rfl (congrArg Prod.fst h) (QV.move (congrArg Prod.snd h) rfl) kk
theorem zf (i:Nat) {m fuel f off:Nat}{q:Addr}{S:World→Prop} [hQ:POk Q] (hT:Bw P U f off) (hi:ops[i]?=some ⟨some d,.fieldAddr U x f,T,pos,after,none⟩) (h:(Nat.blt d n,σ.ev x)=(true,some (true,.pointer (some q))))
  (kk:WD P n ops Q S fuel (G9 (i+1) m) ((d,(true,.pointer (some (q.add off))))::σ) (Own M w0 H)) (ht:Nu ops i m=true:=by kernel_rfl):WD P n ops Q S (fuel+1) (G9 i m) σ (Own M w0 H):=WD.q i hi ht rfl rfl (congrArg Prod.fst h) (QV.fieldAddr hT (congrArg Prod.snd h) rfl) kk
theorem zl (i:Nat) {m fuel:Nat}{q:Addr}{S:World→Prop} [hQ:POk Q] (hT:K3 P U) (hi:ops[i]?=some ⟨some d,.load U x,T,pos,after,none⟩) (h:(Nat.blt d n,σ.ev x)=(true,some (true,.pointer (some q)))) (hc:∀ w,S w→w.cell? q=some v)
  (kk:WD P n ops Q S fuel (G9 (i+1) m) ((d,(true,v))::σ) (Own M w0 H)) (ht:Nu ops i m=true:=by kernel_rfl):WD P n ops Q S (fuel+1) (G9 i m) σ (Own M w0 H):=WD.q i hi ht rfl rfl (congrArg Prod.fst h) (QV.load hT (congrArg Prod.snd h) rfl hc) kk
theorem wc {α:Type}{cc:Operand}{xx:Code}{b:Bool}{u' v' r:α} (hb:σ.ev cc=some (true,.bool b)) (hm:br b u' v'=r) (ht:b=true→u'=r→WK n (xx.wp P Q) σ C) (hf:b=false→v'=r→WK n (y.wp P Q) σ C):WK n ((Code.cond cc xx y).wp P Q) σ C :=
 WC.cond hb (fun h=>ht h (Ab1 h hm)) (fun h=>hf h (Ab2 h hm))
theorem gn {j d':Nat}{b:Bool} (h:(Nat.blt d n,(ops[j]?).bind (·.dst),σ.look d')=(true,some d',some (true,.bool b))) (hq:(!b)=true→QV P ⟨some d,c,T,pos,after,some (j,false)⟩ σ (Own M w0 H) v) (kk:WK n (wpList P ops Q rest) ((d,(!b,v))::σ) (Own M w0 H)):WK n (wpList P ops Q (⟨some d,c,T,pos,after,some (j,false)⟩::rest)) σ (Own M w0 H) :=
 WL.g rfl (congrArg (·.1) h) (Ns (congrArg (·.2.1) h) (congrArg (·.2.2) h)) hq kk
theorem gp {j d':Nat}{b:Bool} (h:(Nat.blt d n,(ops[j]?).bind (·.dst),σ.look d')=(true,some d',some (true,.bool b))) (hq:b=true→QV P ⟨some d,c,T,pos,after,some (j,true)⟩ σ (Own M w0 H) v) (kk:WK n (wpList P ops Q rest) ((d,(b,v))::σ) (Own M w0 H)):WK n (wpList P ops Q (⟨some d,c,T,pos,after,some (j,true)⟩::rest)) σ (Own M w0 H) :=
 WL.g rfl (congrArg (·.1) h) (GuardIs.pos (congrArg (·.2.1) h) (congrArg (·.2.2) h)) hq kk
theorem gpC {j d':Nat}{b gg:Bool} (h:(Nat.blt d n,(ops[j]?).bind (·.dst),σ.look d')=(true,some d',some (gg,.bool b))) (hq:(gg&&b)=true→QV P ⟨some d,c,T,pos,after,some (j,true)⟩ σ (Own M w0 H) v) (kk:WK n (wpList P ops Q rest) ((d,(gg&&b,v))::σ) (Own M w0 H)):WK n (wpList P ops Q (⟨some d,c,T,pos,after,some (j,true)⟩::rest)) σ (Own M w0 H) :=
 WL.g rfl (congrArg (·.1) h) (Abw (congrArg (·.2.1) h) (congrArg (·.2.2) h)) hq kk
theorem zn (i:Nat) {j d' m fuel:Nat}{b:Bool}{S:World→Prop} [hQ:POk Q] (hi:ops[i]?=some ⟨some d,c,T,pos,after,some (j,false)⟩) (h:(Nat.blt d n,(ops[j]?).bind (·.dst),σ.look d')=(true,some d',some (true,.bool b))) (hq:(!b)=true→QV P ⟨some d,c,T,pos,after,some (j,false)⟩ σ S v)
  (kk:WD P n ops Q S fuel (G9 (i+1) m) ((d,(!b,v))::σ) (Own M w0 H)) (ht:Nu ops i m=true:=by kernel_rfl):WD P n ops Q S (fuel+1) (G9 i m) σ (Own M w0 H):=WD.g i hi ht rfl (congrArg (·.1) h) (Ns (congrArg (·.2.1) h) (congrArg (·.2.2) h)) hq kk
theorem zp (i:Nat) {j d' m fuel:Nat}{b:Bool}{S:World→Prop} [hQ:POk Q] (hi:ops[i]?=some ⟨some d,c,T,pos,after,some (j,true)⟩) (h:(Nat.blt d n,(ops[j]?).bind (·.dst),σ.look d')=(true,some d',some (true,.bool b))) (hq:b=true→QV P ⟨some d,c,T,pos,after,some (j,true)⟩ σ S v)
  (kk:WD P n ops Q S fuel (G9 (i+1) m) ((d,(b,v))::σ) (Own M w0 H)) (ht:Nu ops i m=true:=by kernel_rfl):WD P n ops Q S (fuel+1) (G9 i m) σ (Own M w0 H):=WD.g i hi ht rfl (congrArg (·.1) h) (GuardIs.pos (congrArg (·.2.1) h) (congrArg (·.2.2) h)) hq kk
theorem ec {xs:List Operand}{vs:List Value} (h:σ.ev x=some (true,v)) (h3:EvAll σ xs vs):EvAll σ (x::xs) (v::vs):=EvAll.cons h rfl h3
theorem eN:EvAll σ [] []:=EvAll.nil
theorem kg {α:Type}{a:α}{w:World} (h:Own noM w0 H w):a=a∧Grow w0 w:=⟨rfl,Ah9 (fun _ x=>x) h⟩
theorem pk (js:List Nat) (hn:js.Nodup:=by decide) (w:World) (h:Own M w0 H w):Own M w0 (Ab8 js H) w:=h.pick js hn
theorem tr {K:Act→World→Prop} (h:WK n (Q .ret) σ C):WK n (Exit.then K Q .ret) σ C:=h
theorem te {K:Act→World→Prop}{id:Nat} (h:WK n (Q (.exit id)) σ C):WK n (Exit.then K Q (.exit id)) σ C:=h
theorem kr {id:Nat} (h:WK n (Q .ret) σ C):WK n (Exit.inBlock id Q .ret) σ C:=h
theorem sk (k:WK n (Q .normal) σ C):WK n (Code.skip.wp P Q) σ C:=WC.skip k
theorem sr (h:WK n (wpList P l.toArray (Exit.then (y.wp P Q) Q) l) σ C):WK n (((Code.region id l.toArray false).seq y).wp P Q) σ C:=WC.seq (WC.region h)
theorem nt (h:WK n (y.wp P Q) σ C):WK n (wpList P ops (Exit.then (y.wp P Q) Q) []) σ C:=WL.nil (WQ.then h)
theorem nr (h:WK n (wpList P l.toArray Q l) σ C):WK n (wpList P ops (Exit.then ((Code.region id l.toArray false).wp P Q) Q) []) σ C:=nt (WC.region h)
theorem ns {z:Code} (h:WK n (wpList P l.toArray (Exit.then (z.wp P Q) Q) l) σ C):WK n (wpList P ops (Exit.then (((Code.region id l.toArray false).seq z).wp P Q) Q) []) σ C:=nt (sr h)
end
universe u
theorem Z {α:Sort u}{a:α}:a=a:=rfl
theorem fT (sz:Nat) {P:Program}{T:TypeId}{f off:Nat}{fs:Array Field}{fd:Field} (h:P.underlying T=some (.struct fs)) (h1:fs[f]?=some fd:=by rfl) (h2:fd.offset=off:=by rfl) (h3:(P.info? fd.type).map (·.size)=some (sz+1):=by kernel_rfl):Bw P T f off:=⟨fs,fd,sz,h,h1,h2,h3⟩
theorem eT {P : Program} {f : FuncId} {fn : Func} (h : P.funcs[f]? = some fn) (h1 : fn.body.isNone = false := by kernel_rfl) (h2 : (fn.name == "runtime.NumGoroutine") = false := by kernel_rfl) : Enters P f := ⟨fn, h, h1, h2⟩
theorem nl {a b:Nat} (h:Nat.ble a b=true):a≤b:=Nat.le_of_ble_eq_true h
theorem oc {v:Value}{r:List Value} (h:v.oneCell'=true) (k:∀ u∈r,u.oneCell'=true):∀ u∈v::r,u.oneCell'=true:=Ako h k
abbrev u_ (i:Nat) (v:Value):Nat×Bool×Value:=(i,(true,v))
abbrev i_ (n:Int):Value:=.int .i64 n
section
variable {α : Type} {x : Option α} {r : α} {c1 c2 c3 c4 c5 c6 c7 c8 : Prop} [Decidable c1] [Decidable c2] [Decidable c3] [Decidable c4] [Decidable c5] [Decidable c6] [Decidable c7] [Decidable c8]
theorem cs (h:ck c1 x=some r):c1∧x=some r:=Abf h
theorem cs2 (h:ck c1 (ck c2 x)=some r):c1∧c2∧x=some r:=⟨(cs h).1,cs (cs h).2⟩
theorem cs3 (h:ck c1 (ck c2 (ck c3 x))=some r):c1∧c2∧c3∧x=some r:=⟨(cs h).1,cs2 (cs h).2⟩
theorem cs4 (h:ck c1 (ck c2 (ck c3 (ck c4 x)))=some r):c1∧c2∧c3∧c4∧x=some r:=⟨(cs h).1,cs3 (cs h).2⟩
theorem cs5 (h:ck c1 (ck c2 (ck c3 (ck c4 (ck c5 x))))=some r):c1∧c2∧c3∧c4∧c5∧x=some r:=⟨(cs h).1,cs4 (cs h).2⟩
theorem cs6 (h:ck c1 (ck c2 (ck c3 (ck c4 (ck c5 (ck c6 x)))))=some r):c1∧c2∧c3∧c4∧c5∧c6∧x=some r:=⟨(cs h).1,cs5 (cs h).2⟩
theorem cs7 (h:ck c1 (ck c2 (ck c3 (ck c4 (ck c5 (ck c6 (ck c7 x))))))=some r):c1∧c2∧c3∧c4∧c5∧c6∧c7∧x=some r:=⟨(cs h).1,cs6 (cs h).2⟩
theorem cs8 (h:ck c1 (ck c2 (ck c3 (ck c4 (ck c5 (ck c6 (ck c7 (ck c8 x)))))))=some r):c1∧c2∧c3∧c4∧c5∧c6∧c7∧c8∧x=some r:=⟨(cs h).1,cs7 (cs h).2⟩
end
end Go.Rd
end
section
namespace Go.Rd
open Go.RowKit
def Bm (v:Value) (E:TypeId) (sz:Nat) (rows:List (List Value)):Res where
 foot:=fun b=>∃ o n c,v=.slice (some ⟨b,o,none⟩) n c
 holds:=fun w=>((v=.slice none 0 0∧rows=[])∨∃ g o cap d,∃ (A Z:List Value),v=.slice (some ⟨g,o,none⟩) rows.length (cap - d)∧(d<cap→o=d * sz)∧w.heap[g]?=some (.cells (A++rows.flatten++Z).toArray E (0,0))∧A.length=d * sz∧(A++rows.flatten++Z).length=cap * sz∧d+rows.length≤cap∧cap≤maxLen)∧∀ r∈rows,r.length=sz
 stable:=fun w w' ⟨h1,h2⟩ hk=>⟨by
  rcases h1 with h | ⟨g,o,cap,d,A,Z,hv,ho,hh,r⟩
  ·exact .inl h
  ·exact .inr ⟨g,o,cap,d,A,Z,hv,ho,(hk g ⟨_,_,_,hv⟩).trans hh,r⟩,h2⟩
theorem Akk {w:World}{E:TypeId}{sz:Nat}:(Bm (.slice none 0 0) E sz []).holds w:=⟨.inl ⟨rfl,rfl⟩,fun r h=>by cases h⟩
theorem Vg {w:World}{v:Value}{base:Nat}{E:TypeId}{sz:Nat}{rows:List (List Value)} (h:w.ownsRow base E sz v rows.length rows.flatten) (h3:∀ r∈rows,r.length=sz):(Bm v E sz rows).holds w:=by
 obtain⟨h1,h2⟩:=h
 refine⟨?_,h3⟩
 rcases h2 with ⟨hv,hn⟩ | ⟨g,cap,cur,hv,_,hh,hnc,hcm,hcs,ht⟩
 ·exact .inl ⟨hv,List.eq_nil_of_length_eq_zero hn⟩
 ·have e:cur=([]++rows.flatten++cur.toList.drop (rows.length * sz)).toArray:=by
   rw[List.nil_append,←ht,List.take_append_drop]
  have hl:([]++rows.flatten++cur.toList.drop (rows.length * sz)).length=cap * sz:=by
   rw[List.nil_append,←ht,List.take_append_drop];simpa using hcs
  exact .inr ⟨g,0,cap,0,[],_,by rw[Nat.sub_zero];exact hv,fun _=>by omega,by rw[←e];exact hh,by simp,hl,by omega,hcm⟩
theorem W0 {v:Value}{E:TypeId}{sz:Nat}{rows:List (List Value)}{w:World} (h:(Bm v E sz rows).holds w):Arr w v sz rows:=by
 obtain⟨h1,h3⟩:=h
 rcases h1 with ⟨rfl,rfl⟩ | ⟨g,o,cap,d,A,Z,rfl,ho,hh,hA,hl,hd,hc⟩
 ·exact Arr.nil
 ·refine⟨⟨_,_,rfl,fun _=>rfl,by omega⟩,fun i r p hr hp=>?_⟩
  obtain⟨a,n,c,he,h0,hi,rfl⟩:=hp
  simp only[Value.slice.injEq,Option.some.injEq] at he
  obtain⟨rfl,_,_⟩:=he
  rw[Int.toNat_natCast]
  have hlt:=(List.getElem?_eq_some_iff.1 hr).1
  have ho':=ho (by omega)
  have hall:CellsAt w ⟨g,o,none⟩ rows.flatten 0:=CellsAt.of fun j v hv=>by
   rw[Nat.zero_add,Addr.add_lit]
   have:(A++rows.flatten++Z)[o+j]?=some v:=by
    rw[List.append_assoc,List.getElem?_append_right (by omega),List.getElem?_append_left (by have:=(List.getElem?_eq_some_iff.1 hv).1;omega),show o+j - A.length=j from by omega]
    exact hv
   simp only[World.cell?,hh]
   simpa using this
  exact hall.sub (i * sz) r.length (Gg h3 hr)
theorem Abr {v:Value}{E:TypeId}{sz:Nat}{rows:List (List Value)}{w:World} (h:(Bm v E sz rows).holds w):∀ b,(Bm v E sz rows).foot b→b<w.heap.size:=fun b hb=>by
 obtain⟨o,n,c,rfl⟩:=hb
 rcases h.1 with ⟨h,_⟩ | ⟨g,o',cap,d,A,Z,hv,_,hh,_⟩
 ·cases h
 ·simp only[Value.slice.injEq,Option.some.injEq,Addr.mk.injEq] at hv
  obtain⟨⟨rfl,_⟩,_⟩:=hv
  exact(Array.getElem?_eq_some_iff.1 hh).1
theorem Akl {v:Value}{E:TypeId}{sz k:Nat}{rows:List (List Value)}{w:World} (h:(Bm v E sz rows).holds w) (hk:k≤rows.length):(Bm (Lr v sz k rows.length) E sz (rows.drop k)).holds w:=by
 obtain⟨h1,h3⟩:=h
 refine⟨?_,fun r hr=>h3 r (List.mem_of_mem_drop hr)⟩
 rcases h1 with ⟨rfl,rfl⟩ | ⟨g,o,cap,d,A,Z,rfl,ho,hh,hA,hl,hd,hc⟩
 ·left
  have:k=0:=by simpa using hk
  subst this
  exact⟨rfl,rfl⟩
 ·right
  have hfl:rows.flatten=(rows.take k).flatten++(rows.drop k).flatten:=by rw[←List.flatten_append,List.take_append_drop]
  have htl:(rows.take k).flatten.length=k * sz:=by rw[Cd fun r hr=>h3 r (List.mem_of_mem_take hr),List.length_take,Nat.min_eq_left hk]
  have hcells:A++rows.flatten++Z=(A++(rows.take k).flatten)++(rows.drop k).flatten++Z:=by rw[hfl];simp
  refine⟨g,if cap - d=k then o else o+k * sz,cap,d+k,A++(rows.take k).flatten,Z,?_,fun hlt=>?_,by rw[←hcells];exact hh,by rw[List.length_append,hA,htl,Nat.add_mul],by rw[←hcells];exact hl,by rw[List.length_drop];omega,hc⟩
  ·show Value.slice _ _ _=_
   rw[List.length_drop,show cap - d - k=cap - (d+k) from by omega]
   by_cases e:cap - d=k
   ·rw[if_pos e,if_pos e]
   ·rw[if_neg e,if_neg e]
    simp[Addr.add_lit]
  ·rw[if_neg (by omega),ho (by omega),Nat.add_mul]
section
variable {P : Program} {n : Nat} {σ : Env} {M : Nat → Prop} {w0 : World} {H : List Res} {d : Option Tmp} {T U E : TypeId} {pos : String} {after : Array Edge} {gd : Option (Nat × Bool)} {x y : Operand} {g g' : Bool} {v yv : Value}
 {K:Act→World→Prop}{Q:Exit→Act→World→Prop}
theorem Cj (j:Nat) {sz:Nat}{rows:List (List Value)} (hj:H[j]?=some (Bm v E sz rows)):∀ w,Own M w0 H w→Arr w v sz rows:=fun w hw=>W0 (hw.at j hj)
theorem Own.ovecNil {w:World} (h:Own M w0 H w) {E:TypeId}{sz:Nat}{α:Type}{enc:α→List Value}:Own M w0 (Bm (.slice none 0 0) E sz (([]:List α).map enc)::H) w :=
 ⟨h.1,⟨Akk,fun b ⟨_,_,_,h⟩=>by simp at h,fun s _ b ⟨_,_,_,h⟩=>by simp at h⟩,h.2⟩
theorem Za {w:World}{E:TypeId}{sz k m b:Nat}{rows:List (List Value)} (h:(Bm v E sz rows).holds w) (hb:∃ o n c,Lr v sz k m=.slice (some ⟨b,o,none⟩) n c):(Bm v E sz rows).foot b:=by
 obtain⟨o,n,c,he⟩:=hb
 rcases h.1 with ⟨rfl,_⟩ | ⟨g,o',cap,d,A,Z,rfl,_⟩
 ·unfold Lr at he
  simp only[Value.slice.injEq] at he
  have:=he.1
  split at this <;> simp at this
 ·unfold Lr at he
  simp only[Value.slice.injEq] at he
  have h1:=he.1
  split at h1
  ·simp only[Option.some.injEq,Addr.mk.injEq] at h1
   obtain⟨rfl,_⟩:=h1
   exact⟨_,_,_,rfl⟩
  ·rw[Option.map_some,Addr.add_lit] at h1
   simp only[Option.some.injEq,Addr.mk.injEq] at h1
   obtain⟨rfl,_⟩:=h1
   exact⟨_,_,_,rfl⟩
theorem Own.ovecCut {w:World}{α:Type}{enc:α→List Value}{sz:Nat}{xs ys:List α}{k:Nat} (h:Own M w0 (Bm v E sz (xs.map enc)::H) w) (hk:k≤xs.length) (he:ys=xs.drop k):Own M w0 (Bm (Lr v sz k xs.length) E sz (ys.map enc)::H) w:=by
 subst he
 have hc:=Akl (k:=k) h.2.1.1 (by rw[List.length_map];exact hk)
 rw[List.length_map,←List.map_drop] at hc
 exact⟨h.1,⟨hc,fun b hb=>h.2.1.2.1 b (Za h.2.1.1 hb),fun s hs b hb=>h.2.1.2.2 s hs b (Za h.2.1.1 hb)⟩,h.2.2⟩
theorem Ig {α:Type} [Inhabited α] {enc:α→List Value}{sz:Nat}{T:TypeId} (k:Nat) (u:α) {xs:List α}{i:Int}{p q:Addr}{off:Nat}{vs:List Value} (hx:σ.ev x=some (g,.pointer (some q))) (hg:g=true) (hy:σ.ev y=some (g',yv)) (hg':g'=true)
  (hk:H[k]?=some (Bm v E sz (xs.map enc))) (hp:H1 v i sz p) (hi:IX i (ln xs)) (hq:q=p.add off) (hv:yv.cells=vs.toArray) (hs:C8 P T vs.length) (hl:off+vs.length≤sz) (ho:∀ u∈vs,u.oneCell'=true) (he:enc u=Ky (enc (ele xs i)) off vs)
  (kk:WK n K σ (Own M w0 (H.set k (Bm v E sz ((upd xs i u).map enc))))):EV P n ⟨none,.store T x y,U,pos,after,gd⟩ σ (Own M w0 H) K Q:=fun a w ha hw=>by
 refine .inl ?_
 obtain⟨h1,h3⟩:=hw.at k hk
 rcases h1 with ⟨rfl,_⟩ | ⟨b,o,cap,d,A,Z,rfl,hod,hh,hA,hcl,hd,hcm⟩
 ·obtain⟨a,n,c',he',_⟩:=hp;simp at he'
 obtain⟨aa,n',c',he',h0,hlt,rfl⟩:=hp
 simp only[Value.slice.injEq,Option.some.injEq] at he'
 obtain⟨rfl,hn',rfl⟩:=he'
 have hxs:i.toNat<xs.length:=by have:=hi.2;unfold ln at this;omega
 have hrl:(xs.map enc).length=xs.length:=List.length_map _
 have hod':=hod (by omega)
 have hq2:q=⟨b,A.length+(i.toNat * sz+off),none⟩:=by rw[hq,Jf,Addr.add_lit,hod',hA]
 subst hq2
 have hfl:=Cd h3
 have hle:(i.toNat+1) * sz≤(xs.map enc).length * sz:=Nat.mul_le_mul_right _ (by rw[hrl];omega)
 rw[Nat.succ_mul] at hle
 obtain⟨w',q1,q2,q3,q4,q5,q6,q7⟩:=D8 (P:=P) vs ⟨b,A.length+(i.toNat * sz+off),none⟩ 0 (A.length+(i.toNat * sz+off)) _ w hh (by simp[Addr.add]) (by rw[List.length_append,List.length_append,hfl];omega) ho
 obtain⟨inf,hinf,hsz⟩:=Option.map_eq_some_iff.1 hs
 have hrun:(execOp a.eval ⟨none,.store T x y,U,pos,after,gd⟩).run P w=.ok .skip w':=by
  simp[execOp,ha.ev hx hg,ha.ev hy hg',Instr.storeAt,Instr.sureAddr,storeVar,hv,sizeOf,typeInfo,hinf,hsz,q1]
 unfold Oper.wp
 rw[hrun]
 show K (a.put none undef) w'
 have hbl:b<w.heap.size:=(Array.getElem?_eq_some_iff.1 hh).1
 have hrows:((upd xs i u).map enc).flatten=Ky (xs.map enc).flatten (i.toNat * sz+off) vs:=by
  rw[Ph hl h3 (by rw[hrl];exact hxs),Tz hxs he]
  rfl
 have hur:((upd xs i u).map enc).length=(xs.map enc).length:=by simp[upd]
 have hcells:Ky (A++(xs.map enc).flatten++Z) (A.length+(i.toNat * sz+off)) vs=A++((upd xs i u).map enc).flatten++Z:=by
  rw[List.append_assoc,Pa,Ke vs _ _ _ (by rw[hfl];omega),←hrows,List.append_assoc]
 have hholds:(Bm (.slice (some ⟨b,o,none⟩) (xs.map enc).length (cap - d)) E sz ((upd xs i u).map enc)).holds w':=by
  refine⟨.inr ⟨b,o,cap,d,A,Z,by rw[hur],hod,by rw[←hcells];exact q2,hA,by rw[←hcells,D3];exact hcl,by rw[hur];exact hd,hcm⟩,fun r hr=>?_⟩
  obtain⟨s,hs',rfl⟩:=List.mem_map.1 hr
  rcases List.mem_or_eq_of_mem_set hs' with hm | rfl
  ·exact h3 _ (List.mem_map_of_mem hm)
  ·rw[he,D3]
   exact h3 (enc (ele xs i)) (List.mem_map_of_mem (by unfold ele;rw[List.getD_eq_getElem?_getD,List.getElem?_eq_getElem hxs];exact List.getElem_mem hxs))
 refine kk a w' ha (hw.upd k hk q5 q6 q7 (by omega) (fun c hc hne=>q3 c fun e=>hne (by subst e;exact⟨_,_,_,rfl⟩)) hholds fun c hc=>?_)
 obtain⟨o2,n2,k2,he2⟩:=hc
 simp only[Value.slice.injEq,Option.some.injEq,Addr.mk.injEq] at he2
 obtain⟨⟨rfl,_⟩,_⟩:=he2
 exact⟨.inl ⟨_,_,_,rfl⟩,by omega⟩
theorem Vy {w:World}{sz bytes:Nat}{rows news:List (List Value)} (hV:Rl P U E sz bytes) (hown:(Bm v E sz rows).holds w) (hnew:Arr w yv sz news) (hnl:∀ r∈news,r.length=sz) (h1:∀ r∈news,∀ u∈r,u.oneCell'=true)
  (h63:rows.length+news.length≤maxLen) (hby:(rows.length+news.length) * bytes≤140737488355328) :
  ∃ v' w',(Builtin.append_ #[U,U] T #[v,yv]).run P w=.ok v' w'∧(Bm v' E sz (rows++news)).holds w'∧w'.os=w.os∧w'.tape=w.tape∧(w'.output=w.output∧w.drawn≤w'.drawn)∧w.heap.size≤w'.heap.size ∧
   (∀ b,b<w.heap.size→¬(Bm v E sz rows).foot b→w'.heap[b]?=w.heap[b]?)∧(∀ b,(Bm v' E sz (rows++news)).foot b→((Bm v E sz rows).foot b∨w.heap.size≤b)∧b<w'.heap.size):=by
 have hall:∀ r∈rows++news,r.length=sz:=fun r hr=>(List.mem_append.1 hr).elim (hown.2 r) (hnl r)
 have hfl:(rows++news).flatten=rows.flatten++news.flatten:=List.flatten_append
 have hll:(rows++news).length=rows.length+news.length:=List.length_append
 rcases hown.1 with ⟨rfl,rfl⟩ | ⟨g,o,cap,d,A,Z,rfl,hod,hh,hA,hcl,hd,hcm⟩
 ·obtain⟨v',w',r1,r2,r3,r4,r5,r6,r7,r8⟩:=Nb (T:=T) (v:=.slice none 0 0) (rows:=[]) hV (Vz (α:=Unit) (enc:=fun _=>[])) hnew hnl h1 h63 hby
  refine⟨v',w',r1,Vg r2.1 r2.2,r3,r4,r5,r6,fun b hb _=>r7 b hb (fun ⟨_,_,h⟩=>by cases h),fun b hb=>?_⟩
  have hb':(vec v' E sz ([]++news)).foot b:=by
   obtain⟨o,n,c,rfl⟩:=hb
   rcases r2.1.2 with ⟨h,_⟩ | ⟨g,c2,cur,h,_⟩
   ·cases h
   ·simp only[Value.slice.injEq,Option.some.injEq,Addr.mk.injEq] at h
    obtain⟨⟨rfl,rfl,_⟩,rfl,rfl⟩:=h
    exact⟨_,_,rfl⟩
  rcases r8 b hb' with ⟨h | h,h2⟩
  ·obtain⟨_,_,h⟩:=h;cases h
  ·exact⟨.inr h,h2⟩
 have hold:=(W0 hown).cell hown.2
 obtain⟨hU,hi0,hsz⟩:=hV
 obtain⟨i,hi,hq⟩:=Option.map_eq_some_iff.1 hi0
 simp only[Prod.mk.injEq] at hq
 obtain⟨hz0,his,hib⟩:=hq
 obtain⟨z,hz,hzs⟩:=Option.map_eq_some_iff.1 hz0
 have h1':∀ u∈news.flatten,u.oneCell'=true:=fun u hu=>by
  obtain⟨r,hr,hu⟩:=List.mem_flatten.1 hu
  exact h1 r hr u hu
 have hgl:g<w.heap.size:=(Array.getElem?_eq_some_iff.1 hh).1
 obtain⟨ay,cy,rfl,hay,_⟩:=hnew.len
 cases ay with
 | none =>
  have hn0:news=[]:=by
   cases news with
   | nil=>rfl
   | cons r l=>exact absurd (hay (by simp)) (by simp)
  subst hn0
  have hrun:(Builtin.append_ #[U,U] T #[.slice (some ⟨g,o,none⟩) rows.length (cap - d),.slice none ([]:List (List Value)).length cy]).run P w=.ok (.slice (some ⟨g,o,none⟩) rows.length (cap - d)) w:=by
   have hnc:rows.length≤cap - d:=by omega
   simp[Builtin.append_,run_underlying hU,sizeOf,typeInfo,hi,Builtin.lenOf,Builtin.firstCells,hnc,storeCells]
  exact⟨_,w,hrun,by simpa using hown,rfl,rfl,⟨rfl,Nat.le_refl _⟩,Nat.le_refl _,fun _ _ _=>rfl,fun b hb=>⟨.inl hb,Abr hown b hb⟩⟩
 | some a =>
  have hnews:=hnew.cell hnl
  have hl:=Cd hnl
  by_cases hroom:rows.length+news.length≤cap - d
  ·have hf:=run_firstCells_some (P:=P) w sz news.length a news.length cy news.flatten hl hnews
   have hst:∃ w',(storeCells ((⟨g,o,none⟩:Addr).add (rows.length * sz)) news.flatten).run P w=.ok () w'∧w'.heap[g]?=some (.cells (A++(rows++news).flatten++Z.drop news.flatten.length).toArray E (0,0))∧(∀ k,k≠g→w'.heap[k]?=w.heap[k]?)∧w'.heap.size=w.heap.size∧w'.os=w.os∧w'.tape=w.tape∧(w'.output=w.output∧w.drawn≤w'.drawn):=by
    by_cases hn:news=[]
    ·subst hn
     exact⟨w,by simp[storeCells],by simpa using hh,fun _ _=>rfl,rfl,rfl,rfl,rfl,Nat.le_refl _⟩
    ·have hnp:0<news.length:=List.length_pos_iff.2 hn
     have hod':=hod (by omega)
     have hrl:=Cd hown.2
     rw[List.length_append,List.length_append,hA,hrl] at hcl
     have hm1:(d+rows.length+news.length) * sz≤cap * sz:=Nat.mul_le_mul_right _ (by omega)
     rw[Nat.add_mul,Nat.add_mul] at hm1
     obtain⟨w',q1,q2,q3⟩:=D8 (P:=P) (T:=E) (b:=g) news.flatten ((⟨g,o,none⟩:Addr).add (rows.length * sz)) 0 (A.length+rows.flatten.length) _ w hh (by rw[Addr.add_lit];simp[Addr.add,hod',hA,hrl]) (by rw[List.length_append,List.length_append,hA,hrl,hl];omega) h1'
     refine⟨w',q1,?_,q3⟩
     rw[q2,←List.length_append,show (A++rows.flatten).length=(A++rows.flatten).length+0 from rfl,Pa,hfl]
     congr 2
     rw[←List.append_assoc,List.append_assoc (A++rows.flatten)]
     congr 1
     have hzl:news.flatten.length≤Z.length:=by rw[hl];omega
     conv=>lhs;rw[←List.take_append_drop news.flatten.length Z]
     rw[Ke _ _ _ _ (by rw[List.length_take];omega)]
     congr 1
     have:=Wx news.flatten (Z.take news.flatten.length) 0 (by rw[List.length_take];omega)
     simpa using this
   obtain⟨w',q1,q2,q3,q4,q5,q6,q7⟩:=hst
   have hr:(Builtin.append_ #[U,U] T #[.slice (some ⟨g,o,none⟩) rows.length (cap - d),.slice (some a) news.length cy]).run P w=.ok (.slice (some ⟨g,o,none⟩) (rows.length+news.length) (cap - d)) w':=by
    subst his
    simp[Builtin.append_,run_underlying hU,sizeOf,typeInfo,hi,Builtin.lenOf,hroom,hf,q1]
   refine⟨_,w',hr,⟨.inr ⟨g,o,cap,d,A,Z.drop news.flatten.length,by rw[hll],hod,q2,hA,?_,by rw[hll];omega,hcm⟩,hall⟩,q5,q6,q7,by omega,fun b _ hb=>q3 b fun e=>hb (by subst e;exact⟨_,_,_,rfl⟩),fun b hb=>?_⟩
   ·have hrl:=Cd hown.2
    have hm1:(d+rows.length+news.length) * sz≤cap * sz:=Nat.mul_le_mul_right _ (by omega)
    rw[Nat.add_mul,Nat.add_mul] at hm1
    rw[List.length_append,List.length_append,hA,hrl] at hcl
    rw[List.length_append,List.length_append,List.length_drop,hfl,List.length_append,hA,hrl,hl]
    omega
   ·obtain⟨o2,n2,c2,he⟩:=hb
    simp only[Value.slice.injEq,Option.some.injEq,Addr.mk.injEq] at he
    obtain⟨⟨rfl,_⟩,_⟩:=he
    exact⟨.inl ⟨_,_,_,rfl⟩,by omega⟩
  ·obtain⟨v',w',hr,ho,hg⟩:=run_append_arg_grows (P:=P) w U T E i z sz bytes hU hi hz his hib hzs hsz ⟨g,o,none⟩ rows.length (cap - d) rows.flatten (Cd hown.2) hold a news.length cy news.flatten hl hnews (by omega) h63 hby
   refine⟨v',w',hr,Vg (by rw[hfl,hll];exact ho) hall,hg.os,hg.tape,⟨hg.output,Oh _ _ hr⟩,hg.size,fun k hk _=>hg.block k hk (by simp),fun k hk=>?_⟩
   obtain⟨o2,n2,c2,rfl⟩:=hk
   rcases ho.2 with ⟨h,_⟩ | ⟨g',c3,cur,h,h2,h3,_⟩
   ·cases h
   ·simp only[Value.slice.injEq,Option.some.injEq,Addr.mk.injEq] at h
    obtain⟨⟨rfl,_⟩,_⟩:=h
    exact⟨.inr h2,(Array.getElem?_eq_some_iff.1 h3).1⟩
theorem Na {α:Type}{enc:α→List Value}{xs ys:List α} (zs:List α) (k:Nat) {dd sz bytes:Nat} (hn:dd<n) (hV:Rl P U E sz bytes) (hk:H[k]?=some (Bm v E sz (xs.map enc))) (hx:σ.ev x=some (g,v)) (hg:g=true) (hy:σ.ev y=some (g',yv)) (hg':g'=true)
  (hnew:∀ w,Own M w0 H w→Arr w yv sz (ys.map enc)) (hlen:∀ u,(enc u).length=sz) (hone:∀ u∈ys,∀ c∈enc u,c.oneCell'=true) (hz:zs=xs++ys) (h63:zs.length≤maxLen) (hby:zs.length * bytes≤140737488355328)
  (kk:∀ u,SliceLen u zs.length→WK n K ((dd,(true,u))::σ) (Own M w0 (H.set k (Bm u E sz (zs.map enc))))):EV P n ⟨some dd,.call ⟨.builtin .append,#[x,y],#[U,U]⟩,T,pos,after,gd⟩ σ (Own M w0 H) K Q:=fun a w ha hw=>by
 subst hz
 rw[List.length_append] at h63 hby
 refine .inl ?_
 obtain⟨v',w',hr,h2,h3,h4,h5,h6,h7,h8⟩:=Vy (T:=T) hV (hw.at k hk) (hnew w hw) (fun r hr=>by obtain⟨u,_,rfl⟩:=List.mem_map.1 hr;exact hlen u) (fun r hr=>by obtain⟨u,hu,rfl⟩:=List.mem_map.1 hr;exact hone u hu) (by simpa using h63) (by simpa using hby)
 have hrun:(execOp a.eval ⟨some dd,.call ⟨.builtin .append,#[x,y],#[U,U]⟩,T,pos,after,gd⟩).run P w=.ok (.value v') w':=by
  simp[execOp,resolve,invoke,builtin,ha.ev hx hg,ha.ev hy hg',hr,Result.andThen]
 unfold Oper.wp
 rw[hrun]
 have hsl:=(W0 h2).len
 rw[←List.map_append] at h2 h8 hsl
 rw[List.length_map] at hsl
 exact kk v' hsl _ _ (ha.put hn true _) (hw.upd k hk h3 h4 h5 h6 h7 h2 h8)
end
end Go.Rd
end
section
namespace Go.Rd
open Go.RowKit
section
variable {P : Program} {n : Nat} {ops : Array Oper} {Q : Exit → Act → World → Prop} {σ : Env} {C S : World → Prop} {T : Nat → Bool}
def Wh (md:Region.Mode) (ops:Array Oper):Nat→Oper→Nat→Prop
 | 0,_,_=>False
 | n+1,o,k=>∃ e∈o.after,Region.binds md e=true∧(e.on=k∨∃ o',ops[e.on]?=some o'∧Wh md ops n o' k)
theorem T4 {md:Region.Mode}{listed:Array Bool} (hD:DC md ops listed):∀ {m:Nat}{o:Oper}{k:Nat},(∀ e∈o.after,Region.binds md e=true→listed.getD e.on false=true)→Wh md ops m o k→listed.getD k false=true
 | 0,_,_,_,h=>h.elim
 | m+1,o,k,hall,⟨e,he,hb,h⟩=>by
  have h1:=hall e he hb
  rcases h with rfl | ⟨o',ho',h⟩
  ·exact h1
  ·exact T4 hD (fun e' he' hb'=>hD e.on o' ho' h1 e' he' hb') h
def Afp (T:Nat→Bool) (md:Region.Mode) (ops:Array Oper) (listed:Array Bool) (oj:Oper):Prop:=∀ k,listed.getD k false=true→T k=true∨Wh md ops 5 oj k
def Wk (T:Nat→Bool) (P:Program) (md:Region.Mode) (ops:Array Oper) (Q:Exit→Act→World→Prop):(World→Prop)→Nat→Array Bool→(World→Prop)→Act→Prop
 | S,0,listed,C,a=>Region.ready md ops listed=[]∧∀ w,C w→Q .normal a w
 | S,fuel+1,listed,C,a=>DC md ops listed →
  ((Region.ready md ops listed=[]→∀ w,C w→Q .normal a w) ∧
  ∀ i∈Region.ready md ops listed,∀ w,C w→wpOp P ops Q i (fun a' w'=>∃ C' S':World→Prop,F3 C'∧(∀ x,C' x→S' x)∧((∀ x,S' x→S x)∨∃ oi,ops[i]?=some oi∧Afp T md ops listed oi)∧C' w'∧Wk T P md ops Q S' fuel (listed.setIfInBounds i true) C' a') a w) ∨
  (Tail md ops listed∧∀ w,C w→wpAny P md ops Q (fuel+1) listed a w)
theorem Xe {md:Region.Mode}:∀ (S:World→Prop) (fuel:Nat) (listed:Array Bool) (C:World→Prop) (a:Act) (w:World),DC md ops listed→C w→Wk T P md ops Q S fuel listed C a→wpAny P md ops Q fuel listed a w
 | _,0,_,_,_,w,_,hw,h=>⟨h.1,h.2 w hw⟩
 | _,fuel+1,_,_,_,w,hd,hw,h=>by
  rcases h hd with h | h
  ·exact⟨fun h0=>h.1 h0 w hw,fun i hi=>wpOp_mono (fun a' w' ⟨C',S',_,_,_,h1,h2⟩=>Xe S' fuel _ C' a' w' (hd.set hi) h1 h2) (h.2 i hi w hw)⟩
  ·exact h.2 w hw
def YT (T:Nat→Bool) (P:Program) (ops:Array Oper) (S:World→Prop) (i:Nat) (o:Oper) (v:Value) (a:Act):Prop:=(T i=true∧YG P ops (fun _=>True) o v a)∨YG P ops S o v a
theorem Abm {md:Region.Mode}{i:Nat}{oi:Oper}{v:Value} (hi:ops[i]?=some oi) (hsel:∀ (j:Nat) (o:Oper) cs b,ops[j]?=some o→o.op≠.select cs b)
  (hQ:∀ c a w,Q (.panic c) (a.put oi.dst v) w→Q (.panic c) a w) :
  ∀ (fuel:Nat) (S:World→Prop) (listed:Array Bool) (C:World→Prop) (a:Act),F3 C→(∀ x,C x→S x) →
   (∀ j oj,ops[j]?=some oj→j≠i→listed.getD j true=false→(∀ e∈oj.after,Region.binds md e=true→e.on≠i)→oi.apart ops oj=true) →
   i∈Region.ready md ops listed→(YT T P ops S i oi v a)→(T i=true→YG P ops (fun _=>True) oi v a) →
   Wk T P md ops Q S fuel (listed.setIfInBounds i true) C (a.put oi.dst v)→Wk T P md ops Q S (fuel+1) listed C a:=by
 intro fuel
 induction fuel with
 | zero =>
  intro S listed C a hc hCS _ hr hy hyT H
  intro hD
  refine .inl ⟨fun h=>(by rw[h] at hr;cases hr),fun j hj w hw=>?_⟩
  by_cases hji:j=i
  ·subst hji
   rcases hy with ⟨_,hy⟩ | hy
   ·exact hy.toOp hi hw (fun _ _=>trivial) hc fun w' hw'=>⟨C,S,hc,hCS,.inl fun _ h=>h,hw',H⟩
   ·exact hy.toOp hi hw hCS hc fun w' hw'=>⟨C,S,hc,hCS,.inl fun _ h=>h,hw',H⟩
  ·have:=ready_mono hj hji
   rw[H.1] at this
   cases this
 | succ fuel ih =>
  intro S listed C a hc hCS hfree hr hy hyT H
  intro hD
  have H0:=H
  replace H:=H (hD.set hr)
  refine .inl ⟨fun h=>(by rw[h] at hr;cases hr),fun j hj w hw=>?_⟩
  by_cases hji:j=i
  ·subst hji
   rcases hy with ⟨_,hy⟩ | hy
   ·exact hy.toOp hi hw (fun _ _=>trivial) hc fun w' hw'=>⟨C,S,hc,hCS,.inl fun _ h=>h,hw',H0⟩
   ·exact hy.toOp hi hw hCS hc fun w' hw'=>⟨C,S,hc,hCS,.inl fun _ h=>h,hw',H0⟩
  ·have hilt:i<listed.size:=by
    rcases Nat.lt_or_ge i listed.size with h' | h'
    ·exact h'
    ·have h0:=(mem_ready.1 hr).1
     simp[Array.getElem?_eq_none h'] at h0
   have hun:listed.getD i false=false:=by
    have h0:=(mem_ready.1 hr).1
    simp[hilt] at h0 ⊢
    exact h0
   obtain⟨hjun0,oj0,hoj0,hall0⟩:=mem_ready.1 hj
   have hno:∀ oj:Oper,ops[j]?=some oj→∀ m,¬Wh md ops m oj i:=fun oj hoj m h=>by
    rw[hoj0] at hoj
    cases hoj
    have:=T4 hD hall0 h
    rw[hun] at this
    cases this
   rcases H with H | ⟨⟨j0,o0,ho0,hr0,hall0'⟩,_⟩
   case inr =>
    have hj0:=ready_mono hj hji
    rw[hr0,List.mem_singleton] at hj0
    subst hj0
    obtain⟨e,he,hb,h⟩:=hall0' i (by simp[hilt])
    refine absurd (show Wh md ops 2 o0 i from ⟨e,he,hb,?_⟩) (hno o0 ho0 2)
    rcases h with h | ⟨o',ho',e',he',hb',h⟩
    ·exact .inl h
    ·exact .inr ⟨o',ho',e',he',hb',.inl h⟩
   have h1:=H.2 j (ready_mono hj hji) w hw
   obtain⟨hjun,oj,hoj,hall⟩:=mem_ready.1 hj
   have hnot:∀ e∈oj.after,Region.binds md e=true→e.on≠i:=fun e he hb heq=>hno oj hoj 1 ⟨e,he,hb,.inl heq⟩
   have hfree':∀ k ok,ops[k]?=some ok→k≠i→(listed.setIfInBounds j true).getD k true=false →
     (∀ e∈ok.after,Region.binds md e=true→e.on≠i)→oi.apart ops ok=true:=fun k ok hk hki hun hno=>by
    refine hfree k ok hk hki ?_ hno
    by_cases hjk:j=k
    ·subst hjk;exact hjun
    ·rw[getD_set_ne true hjk] at hun;exact hun
   have hFree:∀ {oj':Oper},ops[j]?=some oj'→Afp T md ops (listed.setIfInBounds i true) oj'→T i=true∧Afp T md ops listed oj':=fun {oj'} hoj' hf=>by
    refine⟨?_,fun k hk=>hf k ?_⟩
    ·rcases hf i (by simp[hilt]) with h | h
     ·exact h
     ·exact absurd h (hno _ hoj' 5)
    ·by_cases hik:i=k
     ·subst hik;simp[hilt]
     ·rw[getD_set_ne false hik];exact hk
   by_cases hTi:T i=true
   ·have h2:=Ul hoj (hfree j oj hoj hji hjun hnot) (fun cs b=>hsel i oi cs b hi) (fun cs b=>hsel j oj cs b hoj) hQ (hyT hTi) h1
    refine wpOp_mono (fun a' w' h3=>?_) h2
    obtain⟨hy',C',S',hc',hsub,hSS,hw',hrest⟩:=h3
    refine⟨C',S',hc',hsub,?_,hw',ih S' (listed.setIfInBounds j true) C' a' hc' hsub hfree' (ready_mono hr (Ne.symm hji)) (.inl ⟨hTi,hy'⟩) (fun _=>hy') ?_⟩
    ·rcases hSS with h | ⟨oj',hoj',hf⟩
     ·exact .inl h
     ·exact .inr ⟨oj',hoj',(hFree hoj' hf).2⟩
    ·rw[Array.setIfInBounds_comm _ _ hji]
     exact hrest
   ·have hyS:YG P ops S oi v a:=by
     rcases hy with ⟨h,_⟩ | h
     ·exact absurd h hTi
     ·exact h
    have h2:=Ul hoj (hfree j oj hoj hji hjun hnot) (fun cs b=>hsel i oi cs b hi) (fun cs b=>hsel j oj cs b hoj) hQ hyS h1
    refine wpOp_mono (fun a' w' h3=>?_) h2
    obtain⟨hy',C',S',hc',hsub,hSS,hw',hrest⟩:=h3
    rcases hSS with hSS | ⟨oj',hoj',hf⟩
    case inr=>exact absurd (hFree hoj' hf).1 hTi
    refine⟨C',S',hc',hsub,.inl hSS,hw',ih S' (listed.setIfInBounds j true) C' a' hc' hsub hfree' (ready_mono hr (Ne.symm hji)) (.inr (hy'.mono hSS)) (fun h=>absurd h hTi) ?_⟩
    rw[Array.setIfInBounds_comm _ _ hji]
    exact hrest
def WT (T:Nat→Bool) (P:Program) (n:Nat) (ops:Array Oper) (Q:Exit→Act→World→Prop) (S:World→Prop) (fuel:Nat) (listed:Array Bool) (σ:Env) (C:World→Prop):Prop :=
 (∀ x,C x→S x)→∀ a,Has n a σ→Wk T P .any ops Q S fuel listed C a
theorem Ah4 (T:Nat→Bool) {id:Nat} (hm:P.follows .mixedOrders=true) (hc:F3 C) (hCS:∀ x,C x→S x) (h:WT T P n ops Q S ops.size (Array.replicate ops.size false) σ C):WK n ((Code.region id ops true).wp P Q) σ C:=fun a w ha hw =>
 wp_region_any hm (Xe S _ _ C a _ DC.start (hc w _ hw ⟨rfl,rfl,⟨rfl,Nat.le_succ _⟩,Nat.le_refl _,fun _ _=>rfl⟩) (h hCS a ha))
theorem WT.take (i:Nat) {oi:Oper}{fuel:Nat}{listed listed':Array Bool}{G:Bool}{v:Value}{d:Nat} (hi:ops[i]?=some oi)
  (hs:Region.noSelect ops=true) (hf:Region.free .any ops listed i=true) (hr:(Region.ready .any ops listed).contains i=true) (hl:listed.setIfInBounds i true=listed')
  (hQ:PanicOk Q) (hc:F3 C) (hd:oi.dst=some d) (hn:d<n) (hG:GuardIs ops σ oi.guard G) (hq:G=true→QV P oi σ S v) (hqT:T i=true→G=true→QV P oi σ (fun _=>True) v)
  (k:WT T P n ops Q S fuel listed' ((d,(G,v))::σ) C):WT T P n ops Q S (fuel+1) listed σ C:=fun hCS a ha=>by
 subst hl
 have hp:=k hCS _ (ha.put hn G v)
 rw[←hd] at hp
 have hg:=hG n a ha
 refine Abm hi (Region.noSelect_spec hs) (fun c a w=>hQ c a _ _ w) fuel S listed C a hc hCS (Region.free_spec hi hf) (by simpa using hr) (.inr ?_) (fun hT=>?_) hp
 ·cases G with
  | true=>exact .inl ⟨hg,fun w hw=>hq rfl n a ha w hw⟩
  | false=>exact .inr ⟨hg,rfl⟩
 ·cases G with
  | true=>exact .inl ⟨hg,fun w hw=>hqT hT rfl n a ha w hw⟩
  | false=>exact .inr ⟨hg,rfl⟩
def Aeh (ops:Array Oper):Nat→Oper→Nat→Bool
 | 0,_,_=>false
 | n+1,o,k=>o.after.any fun e=>Region.binds .any e&&(e.on==k || match ops[e.on]? with | some o'=>Aeh ops n o' k | none=>false)
theorem Vo:∀ {m:Nat}{o:Oper}{k:Nat},Aeh ops m o k=true→Wh .any ops m o k
 | 0,_,_,h=>by cases h
 | m+1,o,k,h=>by
  obtain⟨e,he,h1⟩:=Array.any_eq_true'.1 h
  simp only[Bool.and_eq_true,Bool.or_eq_true,beq_iff_eq] at h1
  refine⟨e,he,h1.1,?_⟩
  rcases h1.2 with h2 | h2
  ·exact .inl h2
  ·cases ho:ops[e.on]? with
   | none=>rw[ho] at h2;cases h2
   | some o' =>
    rw[ho] at h2
    exact .inr ⟨o',rfl,Vo h2⟩
def Aix (T:Nat→Bool) (ops:Array Oper) (oj:Oper) (listed:Array Bool):Bool:=(List.range listed.size).all fun k=>!listed.getD k false || (T k || Aeh ops 5 oj k)
theorem Ae5 {oj:Oper}{listed:Array Bool} (h:Aix T ops oj listed=true):Afp T .any ops listed oj:=fun k hk=>by
 have hlt:k<listed.size:=by
  rcases Nat.lt_or_ge k listed.size with h' | h'
  ·exact h'
  ·simp[Array.getElem?_eq_none h'] at hk
 have:=List.all_eq_true.1 h k (List.mem_range.2 hlt)
 rw[hk,Bool.not_true,Bool.false_or,Bool.or_eq_true] at this
 rcases this with h0 | this
 ·exact .inl h0
 ·exact .inr (Vo this)
theorem WT.free (i:Nat) {oi:Oper}{fuel:Nat}{listed listed':Array Bool}{τ:Env}{C':World→Prop} (hi:ops[i]?=some oi) (hr:Region.ready .any ops listed=[i]) (hl:listed.setIfInBounds i true=listed')
  (hg:oi.guard=none) (hf:Aix T ops oi listed=true) (hc:F3 C') (h:EV P n oi σ C (fun a' w'=>Has n a' τ∧C' w') Q) (k:WT T P n ops Q C' fuel listed' τ C'):WT T P n ops Q S (fuel+1) listed σ C:=fun hCS a ha=>by
 subst hl
 intro _
 refine .inl ⟨fun h0=>(by rw[hr] at h0;cases h0),fun j hj w hw=>?_⟩
 rw[hr,List.mem_singleton] at hj
 subst hj
 refine wpOp_mono (K:=fun a' w'=>Has n a' τ∧C' w') (fun a' w' hq=>⟨C',C',hc,fun _ h=>h,.inr ⟨oi,hi,Ae5 hf⟩,hq.2,k (fun _ h=>h) a' hq.1⟩) ?_
 unfold Go.wpOp
 simp only[hi]
 rw[if_pos (by simp[Region.wanted,hg])]
 exact h a w ha hw
theorem WT.last (i:Nat) {oi:Oper}{fuel:Nat}{listed:Array Bool} (hi:ops[i]?=some oi) (hr:Region.ready .any ops listed=[i]) (ht:Ab5 ops oi listed=true) (hl:Region.ready .any ops (listed.setIfInBounds i true)=[])
  (hg:oi.guard=none) (h:EV P n oi σ C (Q .normal) Q):WT T P n ops Q S (fuel+1) listed σ C:=fun hCS a ha=>by
 intro _
 refine .inr ⟨⟨i,oi,hi,hr,Xi ht⟩,fun w hw=>⟨fun h0=>(by rw[hr] at h0;cases h0),fun j hj=>?_⟩⟩
 rw[hr,List.mem_singleton] at hj
 subst hj
 refine wpOp_mono (K:=Q .normal) (fun a' w' hq=>?_) ?_
 ·cases fuel with
  | zero=>exact⟨hl,hq⟩
  | succ f=>exact⟨fun _=>hq,by rw[hl];simp⟩
 ·unfold Go.wpOp
  simp only[hi]
  rw[if_pos (by simp[Region.wanted,hg])]
  exact h a w ha hw
end
section
variable {P : Program} {n : Nat} {ops : Array Oper} {Q : Exit → Act → World → Prop} {oi : Oper} {σ : Env} {M : Nat → Prop} {w0 : World} {H H' : List Res} {v : Value} {d : Nat} {S : World → Prop} {T : Nat → Bool}
theorem Aao {id m:Nat} (T:Nat→Bool) (hm:P.follows .mixedOrders=true) (hs:ops.size=m) (h0:(Array.replicate m false==lst m 0)=true) (h:WT T P n ops Q (Own M w0 H) m (lst m 0) σ (Own M w0 H)):WK n ((Code.region id ops true).wp P Q) σ (Own M w0 H):=by
 subst hs
 rw[←beq_iff_eq.1 h0] at h
 exact Ah4 T hm Ex (fun _ h=>h) h
theorem WT.q (i k k':Nat) {m fuel:Nat} [hQ:POk Q] (hi:ops[i]?=some oi) (ht:Qu ops i m k k'=true) (hd:oi.dst=some d) (hg:oi.guard=none) (hn:Nat.blt d n=true) (hT:T i=false) (hq:QV P oi σ S v)
  (kk:WT T P n ops Q S fuel (lst m k') ((d,(true,v))::σ) (Own M w0 H)):WT T P n ops Q S (fuel+1) (lst m k) σ (Own M w0 H):=by
 unfold Qu at ht
 simp only[Bool.and_eq_true,beq_iff_eq] at ht
 exact WT.take i hi ht.1.1.1 ht.1.1.2 ht.1.2 ht.2 hQ.ok Ex hd (by simpa [Nat.blt_eq] using hn) (hg▸GuardIs.none) (fun _=>hq) (fun h=>by rw[hT] at h;cases h) kk
theorem N6 (i k k':Nat) {m fuel:Nat} [hQ:POk Q] (hi:ops[i]?=some oi) (ht:Qu ops i m k k'=true) (hd:oi.dst=some d) (hg:oi.guard=none) (hn:Nat.blt d n=true) (hq:QV P oi σ (fun _=>True) v)
  (kk:WT T P n ops Q S fuel (lst m k') ((d,(true,v))::σ) (Own M w0 H)):WT T P n ops Q S (fuel+1) (lst m k) σ (Own M w0 H):=by
 unfold Qu at ht
 simp only[Bool.and_eq_true,beq_iff_eq] at ht
 exact WT.take i hi ht.1.1.1 ht.1.1.2 ht.1.2 ht.2 hQ.ok Ex hd (by simpa [Nat.blt_eq] using hn) (hg▸GuardIs.none) (fun _ n' a ha w _=>hq n' a ha w trivial) (fun _ _=>hq) kk
theorem WT.o (i k k':Nat) {m fuel:Nat} (hi:ops[i]?=some oi) (ht:V2 ops i m k k'=true) (hg:oi.guard=none) (hf:Aix T ops oi (lst m k)=true)
  (h:EV P n oi σ (Own M w0 H) (fun a' w'=>Has n a' σ∧Own M w0 H' w') Q) (kk:WT T P n ops Q (Own M w0 H') fuel (lst m k') σ (Own M w0 H')):WT T P n ops Q S (fuel+1) (lst m k) σ (Own M w0 H):=by
 unfold V2 at ht
 simp only[Bool.and_eq_true,beq_iff_eq] at ht
 exact WT.free i hi ht.1 ht.2 hg hf Ex h kk
theorem WT.b (hs:∀ w,Own M w0 H w→Own M w0 H' w):WK n (fun a' w'=>Has n a' σ∧Own M w0 H' w') σ (Own M w0 H):=fun a w ha hw=>⟨ha,hs w hw⟩
theorem WT.l (i k k':Nat) {m fuel:Nat} (hi:ops[i]?=some oi) (ht:V5 ops i m k k'=true) (hg:oi.guard=none) (h:EV P n oi σ (Own M w0 H) (Q .normal) Q):WT T P n ops Q S (fuel+1) (lst m k) σ (Own M w0 H):=by
 unfold V5 at ht
 rw[hi] at ht
 simp only[Bool.and_eq_true,beq_iff_eq] at ht
 exact WT.last i hi ht.1.1 ht.1.2 (by rw[ht.2.2];exact ht.2.1) hg h
end
section
variable {P : Program} {σ : Env} {C : World → Prop} {d : Option Tmp} {T U z : TypeId} {pos : String} {after : Array Edge} {gd : Option (Nat × Bool)} {x y : Operand} {g g' : Bool} {i j : Int}
theorem O6 {k':IntKind} (hx:σ.ev x=some (g,.int .u64 i)) (hg:g=true) (hy:σ.ev y=some (g',.int k' j)) (hg':g'=true) (h0:0≤j):QV P ⟨d,.binOp .shr U x y z,T,pos,after,gd⟩ σ C (.int .u64 (Go.Rd.shrD i j)):=Agj hx hg hy hg' h0
end
abbrev len8T:List UInt8:=[0,1,2,2,3,3,3,3,4,4,4,4,4,4,4,4,5,5,5,5,5,5,5,5,5,5,5,5,5,5,5,5,6,6,6,6,6,6,6,6,6,6,6,6,6,6,6,6,6,6,6,6,6,6,6,6,6,6,6,6,6,6,6,6,7,7,7,7,7,7,7,7,7,7,7,7,7,7,7,7,7,7,7,7,7,7,7,7,7,7,7,7,7,7,7,7,7,7,7,7,7,7,7,7,7,7,7,7,7,7,7,7,7,7,7,7,7,7,7,7,7,7,7,7,7,7,7,7,8,8,8,8,8,8,8,8,8,8,8,8,8,8,8,8,8,8,8,8,8,8,8,8,8,8,8,8,8,8,8,8,8,8,8,8,8,8,8,8,8,8,8,8,8,8,8,8,8,8,8,8,8,8,8,8,8,8,8,8,8,8,8,8,8,8,8,8,8,8,8,8,8,8,8,8,8,8,8,8,8,8,8,8,8,8,8,8,8,8,8,8,8,8,8,8,8,8,8,8,8,8,8,8,8,8,8,8,8,8,8,8,8,8,8,8,8,8,8,8,8,8,8,8,8,8,8,8]
theorem Ao3 {α:Type}{xs:List α}{i:Int} (h:SX i (ln xs) (ln xs)):i.toNat≤xs.length:=by unfold SX ln at h;omega
theorem Al9 {α:Type}{xs:List α}{i:Int} (h:SX i (ln xs) (ln xs)):sub xs i (ln xs)=xs.drop i.toNat:=by
 unfold sub SX ln at *
 rw[List.take_of_length_le (by rw[List.length_drop];omega)]
end Go.Rd
end
section
namespace Go.Rd
noncomputable def Ca (a b:Due):Option (Int) :=
 ck (IR (a.due - b.due)) <|
 some (a.due - b.due)
noncomputable def Bg (a b n_:Int):((List Due)×Int)→Option (Stp ((List Due)×Int) (Empty)):=fun (ows0_1,i10_1) =>
 br (decide (i10_1<n_)) (
 ck (IR (a+i10_1)) <|
 ck (IR (b+i10_1)) <|
 ck (IR (b+i10_1)) <|
 ck (IX (b+i10_1) (ln ows0_1)) <|
 ck (IR (a+i10_1)) <|
 ck (IX (a+i10_1) (ln ows0_1)) <|
 ck (IX (a+i10_1) (ln ows0_1)) <|
 ck (IX (b+i10_1) (ln (upd ows0_1 (a+i10_1) (ele ows0_1 (b+i10_1))))) <|
 ck (IR (i10_1+1)) <|
 some (.next ((upd (upd ows0_1 (a+i10_1) (ele ows0_1 (b+i10_1))) (b+i10_1) (ele ows0_1 (a+i10_1))),(i10_1+1)))) (
 some (.brk (ows0_1,i10_1)))
noncomputable def Bh (data:List Due) (a b n_:Int):Option (List Due) :=
 bd (lp (Bg a b n_) (data,0)) fun o1=>o1.on (fun (ows0_1,i10_1) =>
 some ows0_1) (fun r=>r.elim)
noncomputable def Bl (m_:Int):((List Due)×Int×Int)→Option (Stp ((List Due)×Int×Int) (Empty)):=fun (ows0_1,i10_1,j11_1) =>
 br (i10_1 != j11_1) (
 br (decide (i10_1>j11_1)) (
 ck (IR (m_ - i10_1)) <|
 bd (Bh ows0_1 (m_ - i10_1) m_ j11_1) fun x16 =>
 ck (IR (i10_1 - j11_1)) <|
 some (.next (x16,(i10_1 - j11_1),j11_1))) (
 ck (IR (m_ - i10_1)) <|
 ck (IR (m_+j11_1)) <|
 ck (IR ((m_+j11_1) - i10_1)) <|
 bd (Bh ows0_1 (m_ - i10_1) ((m_+j11_1) - i10_1) i10_1) fun x29 =>
 ck (IR (j11_1 - i10_1)) <|
 some (.next (x29,i10_1,(j11_1 - i10_1))))) (
 some (.brk (ows0_1,i10_1,j11_1)))
noncomputable def B7 (data:List Due) (a m_ b:Int):Option (List Due) :=
 ck (IR (m_ - a)) <|
 ck (IR (b - m_)) <|
 bd (lp (Bl m_) (data,(m_ - a),(b - m_))) fun o5=>o5.on (fun (ows0_1,i10_1,j11_1) =>
 ck (IR (m_ - i10_1)) <|
 bd (Bh ows0_1 (m_ - i10_1) m_ i10_1) fun x12 =>
 some x12) (fun r=>r.elim)
noncomputable def A9 (a:Int):((List Due)×Int)→Option (Stp ((List Due)×Int) (Empty)):=fun (ows0_4,j9_4) =>
 ck ((decide (j9_4>a))=true→IX j9_4 (ln ows0_4)) <|
 ck ((decide (j9_4>a))=true→IR (j9_4 - 1)) <|
 ck ((decide (j9_4>a))=true→IX (j9_4 - 1) (ln ows0_4)) <|
 bdG (decide (j9_4>a)) (Ca (ele ows0_4 j9_4) (ele ows0_4 (j9_4 - 1))) fun x25 =>
 br ((decide (j9_4>a))&&(decide (x25<0))) (
 ck (IR (j9_4 - 1)) <|
 ck (IR (j9_4 - 1)) <|
 ck (IX (j9_4 - 1) (ln ows0_4)) <|
 ck (IX j9_4 (ln ows0_4)) <|
 ck (IX j9_4 (ln ows0_4)) <|
 ck (IX (j9_4 - 1) (ln (upd ows0_4 j9_4 (ele ows0_4 (j9_4 - 1))))) <|
 ck (IR (j9_4 - 1)) <|
 some (.next ((upd (upd ows0_4 j9_4 (ele ows0_4 (j9_4 - 1))) (j9_4 - 1) (ele ows0_4 j9_4)),(j9_4 - 1)))) (
 some (.brk (ows0_4,j9_4)))
noncomputable def A5 (a b:Int):((List Due)×Int)→Option (Stp ((List Due)×Int) (Empty)):=fun (ows0_3,i8_3) =>
 br (decide (i8_3<b)) (
 bd (lp (A9 a) (ows0_3,i8_3)) fun o10=>o10.on (fun (ows0_4,j9_4) =>
 ck (IR (i8_3+1)) <|
 some (.next (ows0_4,(i8_3+1)))) (fun r=>r.elim)) (
 some (.brk (ows0_3,i8_3)))
noncomputable def A1 (data:List Due) (a b:Int):Option (List Due) :=
 ck (IR (a+1)) <|
 bd (lp (A5 a b) (data,(a+1))) fun o3=>o3.on (fun (ows0_3,i8_3) =>
 some ows0_3) (fun r=>r.elim)
noncomputable def Bs (data:List Due) (a:Int):(Int×Int)→Option (Stp (Int×Int) (Empty)):=fun (i10_1,j11_1) =>
 br (decide (i10_1<j11_1)) (
 ck (IR (i10_1+j11_1)) <|
 ck (IX (IntKind.i64.wrap (shrD (IntKind.u64.wrap (i10_1+j11_1)) 1)) (ln data)) <|
 ck (IX a (ln data)) <|
 bd (Ca (ele data (IntKind.i64.wrap (shrD (IntKind.u64.wrap (i10_1+j11_1)) 1))) (ele data a)) fun x22 =>
 br (decide (x22<0)) (
 ck (IR ((IntKind.i64.wrap (shrD (IntKind.u64.wrap (i10_1+j11_1)) 1))+1)) <|
 some (.next (((IntKind.i64.wrap (shrD (IntKind.u64.wrap (i10_1+j11_1)) 1))+1),j11_1))) (
 some (.next (i10_1,(IntKind.i64.wrap (shrD (IntKind.u64.wrap (i10_1+j11_1)) 1)))))) (
 some (.brk (i10_1,j11_1)))
noncomputable def Br (i10_1:Int):((List Due)×Int)→Option (Stp ((List Due)×Int) (Empty)):=fun (ows0_2,k13_2) =>
 ck (IR (i10_1 - 1)) <|
 br (decide (k13_2<(i10_1 - 1))) (
 ck (IR (k13_2+1)) <|
 ck (IR (k13_2+1)) <|
 ck (IX (k13_2+1) (ln ows0_2)) <|
 ck (IX k13_2 (ln ows0_2)) <|
 ck (IX k13_2 (ln ows0_2)) <|
 ck (IX (k13_2+1) (ln (upd ows0_2 k13_2 (ele ows0_2 (k13_2+1))))) <|
 ck (IR (k13_2+1)) <|
 some (.next ((upd (upd ows0_2 k13_2 (ele ows0_2 (k13_2+1))) (k13_2+1) (ele ows0_2 k13_2)),(k13_2+1)))) (
 some (.brk (ows0_2,k13_2)))
noncomputable def Bq (data:List Due) (m_:Int):(Int×Int)→Option (Stp (Int×Int) (Empty)):=fun (i14_3,j15_3) =>
 br (decide (i14_3<j15_3)) (
 ck (IR (i14_3+j15_3)) <|
 ck (IX m_ (ln data)) <|
 ck (IX (IntKind.i64.wrap (shrD (IntKind.u64.wrap (i14_3+j15_3)) 1)) (ln data)) <|
 bd (Ca (ele data m_) (ele data (IntKind.i64.wrap (shrD (IntKind.u64.wrap (i14_3+j15_3)) 1)))) fun x99 =>
 br (!(decide (x99<0))) (
 ck (IR ((IntKind.i64.wrap (shrD (IntKind.u64.wrap (i14_3+j15_3)) 1))+1)) <|
 some (.next (((IntKind.i64.wrap (shrD (IntKind.u64.wrap (i14_3+j15_3)) 1))+1),j15_3))) (
 some (.next (i14_3,(IntKind.i64.wrap (shrD (IntKind.u64.wrap (i14_3+j15_3)) 1)))))) (
 some (.brk (i14_3,j15_3)))
noncomputable def Bp (i14_3:Int):((List Due)×Int)→Option (Stp ((List Due)×Int) (Empty)):=fun (ows0_4,k17_4) =>
 br (decide (k17_4>i14_3)) (
 ck (IR (k17_4 - 1)) <|
 ck (IR (k17_4 - 1)) <|
 ck (IX (k17_4 - 1) (ln ows0_4)) <|
 ck (IX k17_4 (ln ows0_4)) <|
 ck (IX k17_4 (ln ows0_4)) <|
 ck (IX (k17_4 - 1) (ln (upd ows0_4 k17_4 (ele ows0_4 (k17_4 - 1))))) <|
 ck (IR (k17_4 - 1)) <|
 some (.next ((upd (upd ows0_4 k17_4 (ele ows0_4 (k17_4 - 1))) (k17_4 - 1) (ele ows0_4 k17_4)),(k17_4 - 1)))) (
 some (.brk (ows0_4,k17_4)))
noncomputable def Bo (data:List Due) (a m_ b:Int):(Int×Int)→Option (Stp (Int×Int) (Empty)):=fun (start20_6,r21_6) =>
 br (decide (start20_6<r21_6)) (
 ck (IR (start20_6+r21_6)) <|
 ck (IR ((((IntKind.i64.wrap (shrD (IntKind.u64.wrap (a+b)) 1))+m_) - 1) - (IntKind.i64.wrap (shrD (IntKind.u64.wrap (start20_6+r21_6)) 1)))) <|
 ck (IX ((((IntKind.i64.wrap (shrD (IntKind.u64.wrap (a+b)) 1))+m_) - 1) - (IntKind.i64.wrap (shrD (IntKind.u64.wrap (start20_6+r21_6)) 1))) (ln data)) <|
 ck (IX (IntKind.i64.wrap (shrD (IntKind.u64.wrap (start20_6+r21_6)) 1)) (ln data)) <|
 bd (Ca (ele data ((((IntKind.i64.wrap (shrD (IntKind.u64.wrap (a+b)) 1))+m_) - 1) - (IntKind.i64.wrap (shrD (IntKind.u64.wrap (start20_6+r21_6)) 1)))) (ele data (IntKind.i64.wrap (shrD (IntKind.u64.wrap (start20_6+r21_6)) 1)))) fun x181 =>
 br (!(decide (x181<0))) (
 ck (IR ((IntKind.i64.wrap (shrD (IntKind.u64.wrap (start20_6+r21_6)) 1))+1)) <|
 some (.next (((IntKind.i64.wrap (shrD (IntKind.u64.wrap (start20_6+r21_6)) 1))+1),r21_6))) (
 some (.next (start20_6,(IntKind.i64.wrap (shrD (IntKind.u64.wrap (start20_6+r21_6)) 1)))))) (
 some (.brk (start20_6,r21_6)))
noncomputable def Al:Nat→(List Due)→Int→Int→Int→Option (List Due)
 | 0,_,_,_,_=>none
 | fl+1,data,a,m_,b =>
 ck (IR (m_ - a)) <|
 br ((m_ - a)==1) (
 bd (lp (Bs data a) (m_,b)) fun o5=>o5.on (fun (i10_1,j11_1) =>
 bd (lp (Br i10_1) (data,a)) fun o10=>o10.on (fun (ows0_2,k13_2) =>
 some ows0_2) (fun r=>r.elim)) (fun r=>r.elim)) (
 ck (IR (b - m_)) <|
 br ((b - m_)==1) (
 bd (lp (Bq data m_) (a,m_)) fun o82=>o82.on (fun (i14_3,j15_3) =>
 bd (lp (Bp i14_3) (data,m_)) fun o87=>o87.on (fun (ows0_4,k17_4) =>
 some ows0_4) (fun r=>r.elim)) (fun r=>r.elim)) (
 ck (IR (a+b)) <|
 ck (IR ((IntKind.i64.wrap (shrD (IntKind.u64.wrap (a+b)) 1))+m_)) <|
 bd (show Option (Out (Int×Int) (Empty)) from br (decide (m_>(IntKind.i64.wrap (shrD (IntKind.u64.wrap (a+b)) 1)))) (
 ck (IR (((IntKind.i64.wrap (shrD (IntKind.u64.wrap (a+b)) 1))+m_) - b)) <|
 some (.go ((((IntKind.i64.wrap (shrD (IntKind.u64.wrap (a+b)) 1))+m_) - b),(IntKind.i64.wrap (shrD (IntKind.u64.wrap (a+b)) 1))))) (
 some (.go (a,m_)))) fun o157=>o157.on (fun (start20_5,r21_5) =>
 ck (IR (((IntKind.i64.wrap (shrD (IntKind.u64.wrap (a+b)) 1))+m_) - 1)) <|
 bd (lp (Bo data a m_ b) (start20_5,r21_5)) fun o162=>o162.on (fun (start20_6,r21_6) =>
 ck (IR (((IntKind.i64.wrap (shrD (IntKind.u64.wrap (a+b)) 1))+m_) - start20_6)) <|
 br ((decide (start20_6<m_))&&(decide (m_<(((IntKind.i64.wrap (shrD (IntKind.u64.wrap (a+b)) 1))+m_) - start20_6)))) (
 bd (B7 data start20_6 m_ (((IntKind.i64.wrap (shrD (IntKind.u64.wrap (a+b)) 1))+m_) - start20_6)) fun x171 =>
 br ((decide (a<start20_6))&&(decide (start20_6<(IntKind.i64.wrap (shrD (IntKind.u64.wrap (a+b)) 1))))) (
 bd (Al fl x171 a start20_6 (IntKind.i64.wrap (shrD (IntKind.u64.wrap (a+b)) 1))) fun x177 =>
 br ((decide ((IntKind.i64.wrap (shrD (IntKind.u64.wrap (a+b)) 1))<(((IntKind.i64.wrap (shrD (IntKind.u64.wrap (a+b)) 1))+m_) - start20_6)))&&(decide ((((IntKind.i64.wrap (shrD (IntKind.u64.wrap (a+b)) 1))+m_) - start20_6)<b))) (
 bd (Al fl x177 (IntKind.i64.wrap (shrD (IntKind.u64.wrap (a+b)) 1)) (((IntKind.i64.wrap (shrD (IntKind.u64.wrap (a+b)) 1))+m_) - start20_6) b) fun x183 =>
 some x183) (
 some x177)) (
 br ((decide ((IntKind.i64.wrap (shrD (IntKind.u64.wrap (a+b)) 1))<(((IntKind.i64.wrap (shrD (IntKind.u64.wrap (a+b)) 1))+m_) - start20_6)))&&(decide ((((IntKind.i64.wrap (shrD (IntKind.u64.wrap (a+b)) 1))+m_) - start20_6)<b))) (
 bd (Al fl x171 (IntKind.i64.wrap (shrD (IntKind.u64.wrap (a+b)) 1)) (((IntKind.i64.wrap (shrD (IntKind.u64.wrap (a+b)) 1))+m_) - start20_6) b) fun x191 =>
 some x191) (
 some x171))) (
 br ((decide (a<start20_6))&&(decide (start20_6<(IntKind.i64.wrap (shrD (IntKind.u64.wrap (a+b)) 1))))) (
 bd (Al fl data a start20_6 (IntKind.i64.wrap (shrD (IntKind.u64.wrap (a+b)) 1))) fun x199 =>
 br ((decide ((IntKind.i64.wrap (shrD (IntKind.u64.wrap (a+b)) 1))<(((IntKind.i64.wrap (shrD (IntKind.u64.wrap (a+b)) 1))+m_) - start20_6)))&&(decide ((((IntKind.i64.wrap (shrD (IntKind.u64.wrap (a+b)) 1))+m_) - start20_6)<b))) (
 bd (Al fl x199 (IntKind.i64.wrap (shrD (IntKind.u64.wrap (a+b)) 1)) (((IntKind.i64.wrap (shrD (IntKind.u64.wrap (a+b)) 1))+m_) - start20_6) b) fun x205 =>
 some x205) (
 some x199)) (
 br ((decide ((IntKind.i64.wrap (shrD (IntKind.u64.wrap (a+b)) 1))<(((IntKind.i64.wrap (shrD (IntKind.u64.wrap (a+b)) 1))+m_) - start20_6)))&&(decide ((((IntKind.i64.wrap (shrD (IntKind.u64.wrap (a+b)) 1))+m_) - start20_6)<b))) (
 bd (Al fl data (IntKind.i64.wrap (shrD (IntKind.u64.wrap (a+b)) 1)) (((IntKind.i64.wrap (shrD (IntKind.u64.wrap (a+b)) 1))+m_) - start20_6) b) fun x213 =>
 some x213) (
 some data)))) (fun r=>r.elim)) (fun r=>r.elim)))
noncomputable def Bc (n_:Int):((List Due)×Int×Int)→Option (Stp ((List Due)×Int×Int) (Empty)):=fun (ows0_1,a7_1,b8_1) =>
 br (decide (b8_1≤n_)) (
 bd (A1 ows0_1 a7_1 b8_1) fun x8 =>
 ck (IR (b8_1+20)) <|
 some (.next (x8,b8_1,(b8_1+20)))) (
 some (.brk (ows0_1,a7_1,b8_1)))
noncomputable def Bb (n_ blockSize6_4:Int):((List Due)×Int×Int)→Option (Stp ((List Due)×Int×Int) (Empty)):=fun (ows0_5,a7_5,b8_5) =>
 br (decide (b8_5≤n_)) (
 ck (IR (a7_5+blockSize6_4)) <|
 bd (Al 64 ows0_5 a7_5 (a7_5+blockSize6_4) b8_5) fun x28 =>
 ck (IR (2 * blockSize6_4)) <|
 ck (IR (b8_5+(2 * blockSize6_4))) <|
 some (.next (x28,b8_5,(b8_5+(2 * blockSize6_4))))) (
 some (.brk (ows0_5,a7_5,b8_5)))
noncomputable def Bk (n_:Int):((List Due)×Int)→Option (Stp ((List Due)×Int) (Empty)):=fun (ows0_4,blockSize6_4) =>
 br (decide (blockSize6_4<n_)) (
 ck (IR (2 * blockSize6_4)) <|
 bd (lp (Bb n_ blockSize6_4) (ows0_4,0,(2 * blockSize6_4))) fun o19=>o19.on (fun (ows0_5,a7_5,b8_5) =>
 ck (IR (a7_5+blockSize6_4)) <|
 br (decide ((a7_5+blockSize6_4)<n_)) (
 bd (Al 64 ows0_5 a7_5 (a7_5+blockSize6_4) n_) fun x28 =>
 ck (IR (blockSize6_4 * 2)) <|
 some (.next (x28,(blockSize6_4 * 2)))) (
 ck (IR (blockSize6_4 * 2)) <|
 some (.next (ows0_5,(blockSize6_4 * 2))))) (fun r=>r.elim)) (
 some (.brk (ows0_4,blockSize6_4)))
noncomputable def Cm (data:List Due) (n_:Int):Option (List Due) :=
 bd (lp (Bc n_) (data,0,20)) fun o1=>o1.on (fun (ows0_1,a7_1,b8_1) =>
 bd (A1 ows0_1 a7_1 n_) fun x6 =>
 bd (lp (Bk n_) (x6,20)) fun o10=>o10.on (fun (ows0_4,blockSize6_4) =>
 some ows0_4) (fun r=>r.elim)) (fun r=>r.elim)
noncomputable def A7 (x:List Due):Option (List Due) :=
 bd (Cm x (ln x)) fun x1 =>
 some x1
noncomputable def H3 (x:Int):Option (Int) :=
 bd (show Option (Out (Int×Int) (Empty)) from br (decide (x≥4294967296)) (
 some (.go ((shrD x 32),32))) (
 some (.go (x,0)))) fun o1=>o1.on (fun (x0_1,n2_1) =>
 bd (show Option (Out (Int×Int) (Empty)) from br (decide (x0_1≥65536)) (
 ck (IR (n2_1+16)) <|
 some (.go ((shrD x0_1 16),(n2_1+16)))) (
 some (.go (x0_1,n2_1)))) fun o4=>o4.on (fun (x0_2,n2_2) =>
 br (decide (x0_2≥256)) (
 ck (IR (n2_2+8)) <|
 ck (IX ((bt (shrD x0_2 8)).toNat:Int) (ln len8T)) <|
 ck (IR ((n2_2+8)+((ele len8T ((bt (shrD x0_2 8)).toNat:Int)).toNat:Int))) <|
 some ((n2_2+8)+((ele len8T ((bt (shrD x0_2 8)).toNat:Int)).toNat:Int))) (
 ck (IX ((bt x0_2).toNat:Int) (ln len8T)) <|
 ck (IR (n2_2+((ele len8T ((bt x0_2).toNat:Int)).toNat:Int))) <|
 some (n2_2+((ele len8T ((bt x0_2).toNat:Int)).toNat:Int)))) (fun r=>r.elim)) (fun r=>r.elim)
noncomputable def Ey (x:Int):Option (Int) :=
 bd (H3 x) fun x2 =>
 some x2
noncomputable def Em (memory:List (List Int)):((List Int)×Int)→Option (Stp ((List Int)×Int) (List Int×Bool)):=fun (v1_1,x10_1) =>
 br (decide (x10_1<(ln memory))) (
 ck (IX x10_1 (ln memory)) <|
 ck ((!((ln (ele memory x10_1))==0))=true→IR ((ln (ele memory x10_1)) - 1)) <|
 br ((((ln (ele memory x10_1))==0) || ((My (ln (ele memory x10_1)) ((ln (ele memory x10_1)) - 1)) != 0)) || (decide ((ln (ele memory x10_1))>32))) (
 some (.ret ([],false))) (
 bd (Ey (IntKind.u64.wrap (ln (ele memory x10_1)))) fun x21 =>
 ck (IR (x21 - 1)) <|
 ck (AL (v1_1++[(x21 - 1)]).length 8) <|
 ck (IR (x10_1+1)) <|
 some (.next ((v1_1++[(x21 - 1)]),(x10_1+1))))) (
 some (.brk (v1_1,x10_1)))
noncomputable def Hv (memory:List (List Int)):Option (List Int×Bool) :=
 bd (lp (Em memory) ([],0)) fun o2=>o2.on (fun (v1_1,x10_1) =>
 some (v1_1,true)) (fun r=>some r)
noncomputable def B4 (m_Target:Tgt) (m_Kernel_Pace m_Kernel_Stages m_turns r_ pace:Int):Option (Int) :=
 ck (IR (r_+pace)) <|
 ck (m_Target.regs≠0) <|
 some (Int.tmod (r_+pace) m_Target.regs)
noncomputable def C2 (cycle:Int) (x1:List Due):((List Int)×Int)→Option (Stp ((List Int)×Int) (Empty)):=fun (own0v10_1,n4_1) =>
 ck ((decide (n4_1<(ln x1)))=true→IX n4_1 (ln x1)) <|
 br ((decide (n4_1<(ln x1)))&&(decide ((ele x1 n4_1).due≤cycle))) (
 ck (IX n4_1 (ln x1)) <|
 ck (IX n4_1 (ln x1)) <|
 ck (IX ((ele x1 n4_1).reg) (ln own0v10_1)) <|
 ck (IR (n4_1+1)) <|
 some (.next ((upd own0v10_1 ((ele x1 n4_1).reg) ((ele x1 n4_1).v)),(n4_1+1)))) (
 some (.brk (own0v10_1,n4_1)))
noncomputable def Cq (m_Target:Tgt) (m_Kernel_Pace m_Kernel_Stages:Int) (m_Kernel_Ops:List Opr) (m_regs:List Int) (m_memory:List (List Int)) (m_turns:Int) (m_pending:List Due) (cycle:Int):Option (List Int×List Due) :=
 bd (A7 m_pending) fun x1 =>
 bd (lp (C2 cycle x1) (m_regs,0)) fun o5=>o5.on (fun (own0v10_1,n4_1) =>
 ck (SX n4_1 (ln x1) (ln x1)) <|
 some (own0v10_1,(sub x1 n4_1 (ln x1)))) (fun r=>r.elim)
noncomputable def M8 (m_:List (List Int)) (i5_4:Int):Int→Option (Stp (Int) (Empty)):=fun log6_5 =>
 bdG (decide (log6_5≤5)) (On log6_5) fun x14 =>
 ck ((decide (log6_5≤5))=true→IX i5_4 (ln m_)) <|
 br ((decide (log6_5≤5))&&(x14 != (ln (ele m_ i5_4)))) (
 ck (IR (log6_5+1)) <|
 some (.next (log6_5+1))) (
 some (.brk log6_5))
noncomputable def M9 (m_:List (List Int)):((List Int)×Int)→Option (Stp ((List Int)×Int) (List Int×Bool)):=fun (v1_4,i5_4) =>
 br (decide (i5_4<(ln m_))) (
 bd (lp (M8 m_ i5_4) 0) fun o9=>o9.on (fun log6_5 =>
 br (decide (log6_5>5)) (
 some (.ret ([],false))) (
 ck (AL (v1_4++[log6_5]).length 8) <|
 ck (IR (i5_4+1)) <|
 some (.next ((v1_4++[log6_5]),(i5_4+1))))) (fun r=>r.elim)) (
 some (.brk (v1_4,i5_4)))
noncomputable def Rc (m_:List (List Int)):Option (List Int×Bool) :=
 bd (lp (M9 m_) ([],0)) fun o2=>o2.on (fun (v1_4,i5_4) =>
 some (v1_4,true)) (fun r=>some r)
noncomputable def Hd (v28_9:List Due) (now18_9:Int):((List Int)×(List Due)×Int)→Option (Stp ((List Int)×(List Due)×Int) (Empty)):=fun (v3_10,v41_10,i20_10) =>
 br (decide (i20_10<(ln v28_9))) (
 ck (IX i20_10 (ln v28_9)) <|
 br ((ele v28_9 i20_10).due==now18_9) (
 ck (IX i20_10 (ln v28_9)) <|
 ck (IX i20_10 (ln v28_9)) <|
 ck (IX ((ele v28_9 i20_10).reg) (ln v3_10)) <|
 ck (IR (i20_10+1)) <|
 some (.next ((upd v3_10 ((ele v28_9 i20_10).reg) ((ele v28_9 i20_10).v)),v41_10,(i20_10+1)))) (
 ck (IX i20_10 (ln v28_9)) <|
 ck (AL (v41_10++[(ele v28_9 i20_10)]).length 24) <|
 ck (IR (i20_10+1)) <|
 some (.next (v3_10,(v41_10++[(ele v28_9 i20_10)]),(i20_10+1))))) (
 some (.brk (v3_10,v41_10,i20_10)))
noncomputable def Fq (t:Tgt) (k_:Krn) (regs:List Int) (turns:Int) (x13:List Int×Bool) (m13_9:List (List Int)) (now18_9:Int) (v3_10:List Int):((List Due)×(List (List Int))×Int)→Option (Stp ((List Due)×(List (List Int))×Int) (Empty)):=fun (v41_11,r60_11,i23_11) =>
 br (decide (i23_11<(ln k_.ops))) (
 ck (IX i23_11 (ln k_.ops)) <|
 ck (IR ((Int.tdiv now18_9 k_.pace) - (ele k_.ops i23_11).stage)) <|
 ck (k_.pace≠0) <|
 br ((((ele k_.ops i23_11).slot != (Int.tmod now18_9 k_.pace)) || (decide (((Int.tdiv now18_9 k_.pace) - (ele k_.ops i23_11).stage)<0))) || (decide (((Int.tdiv now18_9 k_.pace) - (ele k_.ops i23_11).stage)≥turns))) (
 ck (IR (i23_11+1)) <|
 some (.next (v41_11,r60_11,(i23_11+1)))) (
 ck (IR ((ele k_.ops i23_11).a+(Int.tdiv now18_9 k_.pace))) <|
 ck (t.regs≠0) <|
 ck (IX (Int.tmod ((ele k_.ops i23_11).a+(Int.tdiv now18_9 k_.pace)) t.regs) (ln v3_10)) <|
 ck (IR ((ele k_.ops i23_11).b+(Int.tdiv now18_9 k_.pace))) <|
 ck (t.regs≠0) <|
 ck (IX (Int.tmod ((ele k_.ops i23_11).b+(Int.tdiv now18_9 k_.pace)) t.regs) (ln v3_10)) <|
 br ((ele k_.ops i23_11).op==1) (
 bd (Ic ((ele k_.ops i23_11).op)) fun x100 =>
 ck (IX x100 3) <|
 ck (IR (now18_9+(Bi t.w0 t.w1 t.w2 x100))) <|
 ck (IR ((ele k_.ops i23_11).dest+(Int.tdiv now18_9 k_.pace))) <|
 ck (t.regs≠0) <|
 ck (AL (v41_11++[(Due.mk (now18_9+(Bi t.w0 t.w1 t.w2 x100)) (Int.tmod ((ele k_.ops i23_11).dest+(Int.tdiv now18_9 k_.pace)) t.regs) ((ele k_.ops i23_11).n))]).length 24) <|
 ck (IR (i23_11+1)) <|
 some (.next ((v41_11++[(Due.mk (now18_9+(Bi t.w0 t.w1 t.w2 x100)) (Int.tmod ((ele k_.ops i23_11).dest+(Int.tdiv now18_9 k_.pace)) t.regs) ((ele k_.ops i23_11).n))]),r60_11,(i23_11+1)))) (
 br ((ele k_.ops i23_11).op==2) (
 bd (Ic ((ele k_.ops i23_11).op)) fun x121 =>
 ck (IX x121 3) <|
 ck (IR (now18_9+(Bi t.w0 t.w1 t.w2 x121))) <|
 ck (IR ((ele k_.ops i23_11).dest+(Int.tdiv now18_9 k_.pace))) <|
 ck (t.regs≠0) <|
 ck (AL (v41_11++[(Due.mk (now18_9+(Bi t.w0 t.w1 t.w2 x121)) (Int.tmod ((ele k_.ops i23_11).dest+(Int.tdiv now18_9 k_.pace)) t.regs) ((Int.tdiv now18_9 k_.pace) - (ele k_.ops i23_11).stage))]).length 24) <|
 ck (IR (i23_11+1)) <|
 some (.next ((v41_11++[(Due.mk (now18_9+(Bi t.w0 t.w1 t.w2 x121)) (Int.tmod ((ele k_.ops i23_11).dest+(Int.tdiv now18_9 k_.pace)) t.regs) ((Int.tdiv now18_9 k_.pace) - (ele k_.ops i23_11).stage))]),r60_11,(i23_11+1)))) (
 br ((ele k_.ops i23_11).op==3) (
 ck (IX ((ele k_.ops i23_11).ar) (ln m13_9)) <|
 ck (IX ((ele k_.ops i23_11).ar) (ln x13.1)) <|
 bd (Pf ((ele k_.ops i23_11).sp) ((ele k_.ops i23_11).pl) ((Int.tdiv now18_9 k_.pace) - (ele k_.ops i23_11).stage) (ele x13.1 ((ele k_.ops i23_11).ar))) fun x153 =>
 ck (IX x153 (ln (ele m13_9 ((ele k_.ops i23_11).ar)))) <|
 bd (Ic ((ele k_.ops i23_11).op)) fun x160 =>
 ck (IX x160 3) <|
 ck (IR (now18_9+(Bi t.w0 t.w1 t.w2 x160))) <|
 ck (IR ((ele k_.ops i23_11).dest+(Int.tdiv now18_9 k_.pace))) <|
 ck (t.regs≠0) <|
 ck (AL (v41_11++[(Due.mk (now18_9+(Bi t.w0 t.w1 t.w2 x160)) (Int.tmod ((ele k_.ops i23_11).dest+(Int.tdiv now18_9 k_.pace)) t.regs) (ele (ele m13_9 ((ele k_.ops i23_11).ar)) x153))]).length 24) <|
 ck (IR (i23_11+1)) <|
 some (.next ((v41_11++[(Due.mk (now18_9+(Bi t.w0 t.w1 t.w2 x160)) (Int.tmod ((ele k_.ops i23_11).dest+(Int.tdiv now18_9 k_.pace)) t.regs) (ele (ele m13_9 ((ele k_.ops i23_11).ar)) x153))]),r60_11,(i23_11+1)))) (
 br ((ele k_.ops i23_11).op==4) (
 ck (IX ((ele k_.ops i23_11).ar) (ln r60_11)) <|
 ck (IX ((ele k_.ops i23_11).ar) (ln x13.1)) <|
 bd (Pf ((ele k_.ops i23_11).sp) ((ele k_.ops i23_11).pl) ((Int.tdiv now18_9 k_.pace) - (ele k_.ops i23_11).stage) (ele x13.1 ((ele k_.ops i23_11).ar))) fun x189 =>
 ck (IX x189 (ln (ele r60_11 ((ele k_.ops i23_11).ar)))) <|
 bd (Ic ((ele k_.ops i23_11).op)) fun x198 =>
 ck (IX x198 3) <|
 ck (IR (now18_9+(Bi t.w0 t.w1 t.w2 x198))) <|
 ck (IR ((ele k_.ops i23_11).dest+(Int.tdiv now18_9 k_.pace))) <|
 ck (t.regs≠0) <|
 ck (AL (v41_11++[(Due.mk (now18_9+(Bi t.w0 t.w1 t.w2 x198)) (Int.tmod ((ele k_.ops i23_11).dest+(Int.tdiv now18_9 k_.pace)) t.regs) (ele v3_10 (Int.tmod ((ele k_.ops i23_11).a+(Int.tdiv now18_9 k_.pace)) t.regs)))]).length 24) <|
 ck (IR (i23_11+1)) <|
 some (.next ((v41_11++[(Due.mk (now18_9+(Bi t.w0 t.w1 t.w2 x198)) (Int.tmod ((ele k_.ops i23_11).dest+(Int.tdiv now18_9 k_.pace)) t.regs) (ele v3_10 (Int.tmod ((ele k_.ops i23_11).a+(Int.tdiv now18_9 k_.pace)) t.regs)))]),(updG r60_11 ((ele k_.ops i23_11).ar) x189 (ele v3_10 (Int.tmod ((ele k_.ops i23_11).a+(Int.tdiv now18_9 k_.pace)) t.regs))),(i23_11+1)))) (
 ck (IR ((ele k_.ops i23_11).op - 10)) <|
 bd (Abk ((ele k_.ops i23_11).op - 10) (ele v3_10 (Int.tmod ((ele k_.ops i23_11).a+(Int.tdiv now18_9 k_.pace)) t.regs)) (ele v3_10 (Int.tmod ((ele k_.ops i23_11).b+(Int.tdiv now18_9 k_.pace)) t.regs))) fun x219 =>
 bd (Ic ((ele k_.ops i23_11).op)) fun x222 =>
 ck (IX x222 3) <|
 ck (IR (now18_9+(Bi t.w0 t.w1 t.w2 x222))) <|
 ck (IR ((ele k_.ops i23_11).dest+(Int.tdiv now18_9 k_.pace))) <|
 ck (t.regs≠0) <|
 ck (AL (v41_11++[(Due.mk (now18_9+(Bi t.w0 t.w1 t.w2 x222)) (Int.tmod ((ele k_.ops i23_11).dest+(Int.tdiv now18_9 k_.pace)) t.regs) x219)]).length 24) <|
 ck (IR (i23_11+1)) <|
 some (.next ((v41_11++[(Due.mk (now18_9+(Bi t.w0 t.w1 t.w2 x222)) (Int.tmod ((ele k_.ops i23_11).dest+(Int.tdiv now18_9 k_.pace)) t.regs) x219)]),r60_11,(i23_11+1))))))))) (
 some (.brk (v41_11,r60_11,i23_11)))
noncomputable def Fr (t:Tgt) (k_:Krn) (regs:List Int) (turns:Int) (x13:List Int×Bool):((List Due)×(List Int)×(List (List Int))×Int)→Option (Stp ((List Due)×(List Int)×(List (List Int))×Int) (Empty)):=fun (v28_9,v3_9,m13_9,now18_9) =>
 ck (IR ((((turns+k_.stages) - 1) * k_.pace)+6)) <|
 ck (IR (((((turns+k_.stages) - 1) * k_.pace)+6)+1)) <|
 br (decide (now18_9<(((((turns+k_.stages) - 1) * k_.pace)+6)+1))) (
 bd (lp (Hd v28_9 now18_9) (v3_9,[],0)) fun o42=>o42.on (fun (v3_10,v41_10,i20_10) =>
 br (decide (now18_9≥(((turns+k_.stages) - 1) * k_.pace))) (
 ck (IR (now18_9+1)) <|
 some (.next (v41_10,v3_10,m13_9,(now18_9+1)))) (
 ck (k_.pace≠0) <|
 ck (IR (Int.tdiv now18_9 k_.pace)) <|
 bd (Re m13_9) fun x56 =>
 bd (lp (Fq t k_ regs turns x13 m13_9 now18_9 v3_10) (v41_10,x56,0)) fun o61=>o61.on (fun (v41_11,r60_11,i23_11) =>
 ck (IR (now18_9+1)) <|
 some (.next (v41_11,v3_10,r60_11,(now18_9+1)))) (fun r=>r.elim))) (fun r=>r.elim)) (
 some (.brk (v28_9,v3_9,m13_9,now18_9)))
noncomputable def Rb (t:Tgt) (k_:Krn) (regs:List Int) (memory:List (List Int)) (turns:Int):Option (List Int×List (List Int)) :=
 ck (AL ([]++regs).length 8) <|
 bd (Re memory) fun x8 =>
 bd (Rc memory) fun x13 =>
 br (turns==0) (
 some (([]++regs),x8)) (
 ck (IR (turns+k_.stages)) <|
 ck (IR ((turns+k_.stages) - 1)) <|
 ck (IR (((turns+k_.stages) - 1) * k_.pace)) <|
 bd (lp (Fr t k_ regs turns x13) ([],([]++regs),x8,0)) fun o30=>o30.on (fun (v28_9,v3_9,m13_9,now18_9) =>
 some (v3_9,m13_9)) (fun r=>r.elim))
def lgN (n:Nat):Nat:=if n=1 then 0 else if n=2 then 1 else if n=4 then 2 else if n=8 then 3 else if n=16 then 4 else if n=32 then 5 else 6
theorem Afy {n L:Nat} (h:L≤5):lgN n=L↔n=2 ^ L:=by
 unfold lgN
 rcases (by omega:L=0∨L=1∨L=2∨L=3∨L=4∨L=5) with rfl | rfl | rfl | rfl | rfl | rfl <;> (simp only[Nat.pow_zero,Nat.pow_one,show (2:Nat) ^ 2=4 from rfl,show (2:Nat) ^ 3=8 from rfl,show (2:Nat) ^ 4=16 from rfl,show (2:Nat) ^ 5=32 from rfl];split <;> (try split) <;> (try split) <;> (try split) <;> (try split) <;> (try split) <;> omega)
theorem Ait {k:Nat} (h:k≤5):(1:Int)≤2 ^ k∧(2:Int) ^ k≤32∧((2 ^ k:Nat):Int)=2 ^ k:=⟨(Hm k h).1,(Hm k h).2,by simp⟩
def Afo (M:List (List Int)):Prop:=∀ i:Nat,i<M.length→lgN (ele M (i:Int)).length≤5
def Aca (M:List (List Int)):List Int:=(List.range M.length).map fun i:Nat=>(lgN (ele M (i:Int)).length:Int)
theorem AL8M {n:Nat} (h:n≤5864062014634):AL n 8:=⟨by rw[F4];omega,by omega⟩
theorem Aol {L:Nat} (h:L≤5):Ey (IntKind.u64.wrap ((2 ^ L:Nat):Int))=some ((L:Int)+1):=by
 have key:∀ n:Int,0≤n→n<256→Ey (IntKind.u64.wrap n)=some (((ele len8T ((bt n).toNat:Int)).toNat:Int)):=fun n h0 h1=>by
  have hw:IntKind.u64.wrap n=n:=by unfold IntKind.wrap;simp[IntKind.bits,IntKind.signed];omega
  have hb:=(bt n).toNat_lt
  have hc:=(ele len8T ((bt n).toNat:Int)).toNat_lt
  unfold Ey H3
  rw[hw,Bt (by omega),bd_ret,Out.on_go]
  simp only
  rw[Bt (by omega),bd_ret,Out.on_go]
  simp only
  rw[Bt (by omega),Av (by omega) (by show _<((len8T.length:Nat):Int);rw[show len8T.length=256 from by decide +kernel];omega),Aj (by omega) (by omega),bd_ret,Int.zero_add]
 rcases (by omega:L=0∨L=1∨L=2∨L=3∨L=4∨L=5) with rfl | rfl | rfl | rfl | rfl | rfl <;> (rw[key _ (by decide) (by decide)];decide +kernel)
theorem Anr {n:Nat}:lgN n≤5∨(n=0∨n>32∨(n≤32∧My (n:Int) ((n:Int) - 1)≠0)):=by
 by_cases h:n≤32
 ·have:∀ m:Fin 33,lgN m.val≤5∨(m.val=0∨m.val>32∨(m.val≤32∧My (m.val:Int) ((m.val:Int) - 1)≠0)):=by decide +kernel
  exact this ⟨n,by omega⟩
 ·exact .inr (.inr (.inl (by omega)))
theorem Anh {L:Nat} (h:L≤5):My ((2 ^ L:Nat):Int) (((2 ^ L:Nat):Int) - 1)=0:=by
 rcases (by omega:L=0∨L=1∨L=2∨L=3∨L=4∨L=5) with rfl | rfl | rfl | rfl | rfl | rfl <;> decide +kernel
theorem Ahe {M:List (List Int)} (hl:M.length≤5864062014634) (hr:∀ r∈M,r.length≤maxLen):Hv M=some (bif tb (Afo M) then (Aca M,true) else ([],false)):=by
 unfold Hv
 have X:=Iz (f:=Em M) (ρ:=List Int×Bool) (fun i=>((List.range i).map (fun j:Nat=>(lgN (ele M (j:Int)).length:Int)),(i:Int))) M.length (fun i=>lgN (ele M (i:Int)).length≤5) (fun _=>([],false)) (fun i hi _=>by
  have hml:=hr _ (Cv hi)
  rw[F4] at hml
  unfold Em
  simp only
  rw[Bu (by unfold ln;omega),Av (by omega) (by unfold ln;omega),Fb (fun _=>⟨by unfold ln;omega,by unfold ln;omega⟩)]
  constructor
  ·intro h5
   have e:=(Afy h5).1 rfl
   have hp:=Ait h5
   generalize hL:lgN (ele M (i:Int)).length=L at *
   rw[show ln (ele M (i:Int))=((2 ^ L:Nat):Int) from by unfold ln;rw[e],Anh h5,show ((((2 ^ L:Nat):Int)==0) || ((0:Int) != 0) || decide (((2 ^ L:Nat):Int)>32))=false from by
    rw[Bool.or_eq_false_iff,Bool.or_eq_false_iff,beq_eq_false_iff_ne,decide_eq_false_iff_not];exact⟨⟨by omega,rfl⟩,by omega⟩,br_false,Aol h5,bd_ret,Aj (by omega) (by omega),show (L:Int)+1 - 1=L from by omega,Ao (AL8M (by simp;omega)),Aj (by omega) (by omega)]
   rw[←rm_succ,hL];rfl
  ·intro h5
   have hb:=(Anr (n:=(ele M (i:Int)).length)).resolve_left h5
   rw[show ((ln (ele M (i:Int))==0) || (My (ln (ele M (i:Int))) (ln (ele M (i:Int)) - 1) != 0) || decide (ln (ele M (i:Int))>32))=true from by
    unfold ln
    rw[Bool.or_eq_true,Bool.or_eq_true,beq_iff_eq,bne_iff_ne,decide_eq_true_eq]
    rcases hb with h | h | h
    ·exact .inl (.inl (by omega))
    ·exact .inr (by omega)
    ·exact .inl (.inr h.2),br_true]) (by unfold Em;exact Bt (by unfold ln;omega))
 rcases X with ⟨hp,X⟩ | ⟨i,hi,hp,_,X⟩
 ·rw[show lp (Em M) ([],0)=_ from X,bd_ret,Out.on_go,Cc (show Afo M from hp)];rfl
 ·rw[show lp (Em M) ([],0)=_ from X,bd_ret,B0 (fun h:Afo M=>hp (h i hi))];rfl
theorem Mf {α:Type} [Inhabited α] {P W:List α}{x:α}{i:Int} (h:i=P.length):ele (P++x::W) i=x:=by
 subst h
 rw[Cs,List.getD_eq_getElem?_getD,List.getElem?_append_right (Nat.le_refl _),Nat.sub_self];rfl
theorem Nh {α:Type}{P W:List α}{x z:α}{i:Int} (h:i=P.length):upd (P++x::W) i z=P++z::W:=by
 subst h
 unfold upd
 rw[Int.toNat_natCast,List.set_append_right _ _ (Nat.le_refl _),Nat.sub_self];rfl
def atT (T:Int) (l:List Due):List Due:=l.filter fun d=>decide (d.due=T)
theorem Q2 (T:Int) (a b:List Due):atT T (a++b)=atT T a++atT T b:=List.filter_append ..
theorem Adl {T:Int}{l:List Due} (h:∀ d∈l,d.due≠T):atT T l=[]:=List.filter_eq_nil_iff.2 fun d hd=>by simpa using h d hd
def Stb (x y:List Due):Prop:=x.length=y.length∧∀ T,atT T x=atT T y
theorem F8 (x:List Due):Stb x x:=⟨rfl,fun _=>rfl⟩
theorem Stb.trans {x y z:List Due} (h:Stb x y) (k:Stb y z):Stb x z:=⟨h.1.trans k.1,fun T=>(h.2 T).trans (k.2 T)⟩
theorem Stb.symm {x y:List Due} (h:Stb x y):Stb y x:=⟨h.1.symm,fun T=>(h.2 T).symm⟩
theorem Stb.app {a a' b b':List Due} (h:Stb a a') (k:Stb b b'):Stb (a++b) (a'++b'):=⟨by rw[List.length_append,List.length_append,h.1,k.1],fun T=>by rw[Q2,Q2,h.2,k.2]⟩
theorem Stb.mem {x y:List Due} (h:Stb x y) {d:Due}:d∈x↔d∈y:=by
 have:=h.2 d.due
 constructor
 ·intro hd
  have h1:d∈atT d.due x:=List.mem_filter.2 ⟨hd,by simp⟩
  rw[this] at h1
  exact(List.mem_filter.1 h1).1
 ·intro hd
  have h1:d∈atT d.due y:=List.mem_filter.2 ⟨hd,by simp⟩
  rw[←this] at h1
  exact(List.mem_filter.1 h1).1
theorem Ts {a b:List Due} (h:∀ x∈a,∀ y∈b,y.due<x.due):Stb (a++b) (b++a):=⟨by rw[List.length_append,List.length_append,Nat.add_comm],fun T=>by
 rw[Q2,Q2]
 by_cases c:∃ x∈a,x.due=T
 ·obtain⟨x,hx,hT⟩:=c
  rw[Adl (l:=b) fun y hy=>by have:=h x hx y hy;omega]
  simp
 ·rw[Adl (l:=a) fun x hx e=>c ⟨x,hx,e⟩]
  simp⟩
def K7 (l:List Due):Prop:=l.Pairwise fun x y=>x.due≤y.due
theorem Afr (a b:Int):∀ (X Y A B Z:List Due) (i:Nat),X.length=Y.length→(A.length:Int)=a+i→(A.length:Int)+X.length+B.length=b+i→0≤a→0≤b→A.length+X.length+B.length+Y.length+Z.length≤1000000 →
  lp (Bg a b ((i+X.length:Nat):Int)) (A++(X++(B++(Y++Z))),(i:Int))=some (.go (A++(Y++(B++(X++Z))),((i+X.length:Nat):Int)))
 | [],[],A,B,Z,i,_,_,_,_,_,_=>by
  refine C0 ?_
  unfold Bg
  exact Bt (by simp)
 | x::X,y::Y,A,B,Z,i,hl,ha,hb,h0,h1,hs=>by
  simp only[List.length_cons] at hl hb hs
  have ih:=Afr a b X Y (A++[y]) (B++[x]) Z (i+1) (by omega) (by rw[List.length_append,List.length_singleton];omega) (by rw[List.length_append,List.length_append,List.length_singleton,List.length_singleton];omega) h0 h1 (by rw[List.length_append,List.length_append,List.length_singleton,List.length_singleton];omega)
  rw[show ((i+(x::X).length:Nat):Int)=((i+1+X.length:Nat):Int) from by simp only[List.length_cons];omega]
  have e1:A++((x::X)++(B++((y::Y)++Z)))=A++x::(X++(B++y::(Y++Z))):=by simp
  have e2:A++(y::(X++(B++y::(Y++Z))))=(A++y::(X++B))++y::(Y++Z):=by simp
  have e3:A++x::(X++(B++y::(Y++Z)))=(A++x::(X++B))++y::(Y++Z):=by simp
  have hln:ln (A++((x::X)++(B++((y::Y)++Z))))=((A.length+(X.length+1)+B.length+(Y.length+1)+Z.length:Nat):Int):=by unfold ln;simp only[List.length_append,List.length_cons];omega
  refine Cr (g':=(A++[y]++(X++(B++[x]++(Y++Z))),((i+1:Nat):Int))) ?_ ?_
  ·unfold Bg
   simp only
   have lu:∀ (l:List Due) (i:Int) (z:Due),ln (upd l i z)=ln l:=fun l i z=>by unfold ln;rw[Ck]
   rw[Bu (by omega),Aj (by omega) (by omega),Aj (by omega) (by omega),Aj (by omega) (by omega),Av (by omega) (by rw[hln];omega),Aj (by omega) (by omega),Av (by omega) (by rw[hln];omega),Av (by omega) (by rw[hln];omega),lu,Av (by omega) (by rw[hln];omega),Aj (by omega) (by omega)]
   have q1:ele (A++((x::X)++(B++((y::Y)++Z)))) (a+i)=x:=by rw[e1];exact Mf (by omega)
   have q2:ele (A++((x::X)++(B++((y::Y)++Z)))) (b+i)=y:=by rw[e1,e3];exact Mf (by simp only[List.length_append,List.length_cons];omega)
   rw[q1,q2,e1,Nh (by omega),e2,Nh (by simp only[List.length_append,List.length_cons];omega)]
   have:A++y::(X++B)++x::(Y++Z)=A++[y]++(X++(B++[x]++(Y++Z))):=by simp
   rw[this];rfl
  ·rw[ih]
   simp
theorem Qk {a b:Int}{X Y A B Z:List Due} (hl:X.length=Y.length) (ha:(A.length:Int)=a) (hb:(A.length:Int)+X.length+B.length=b) (hs:A.length+X.length+B.length+Y.length+Z.length≤1000000) {n:Int} (hn:n=X.length) :
  Bh (A++(X++(B++(Y++Z)))) a b n=some (A++(Y++(B++(X++Z)))):=by
 subst hn
 have:=Afr a b X Y A B Z 0 hl (by omega) (by omega) (by omega) (by omega) hs
 rw[Nat.zero_add] at this
 unfold Bh
 rw[show lp (Bg a b (X.length:Int)) (A++(X++(B++(Y++Z))),0)=_ from this,bd_ret,Out.on_go]
theorem Wu (m:Int):∀ (s:Nat) (A X Y Z:List Due),X.length+Y.length≤s→1≤X.length→1≤Y.length→(A.length:Int)+X.length=m→A.length+X.length+Y.length+Z.length≤1000000 →
  ∃ A' X' Y' Z':List Due,∃ k:Nat,lp (Bl m) (A++(X++(Y++Z)),(X.length:Int),(Y.length:Int))=some (.go (A'++(X'++(Y'++Z')),(k:Int),(k:Int)))∧X'.length=k∧Y'.length=k∧(A'.length:Int)+k=m∧A'++(Y'++(X'++Z'))=A++(Y++(X++Z))∧A'.length+k+k+Z'.length≤1000000
 | 0,_,X,_,_,h,h1,_,_,_=>by omega
 | s+1,A,X,Y,Z,h,h1,h2,hm,hs=>by
  rcases Nat.lt_trichotomy X.length Y.length with c | c | c
  ·skip
   have hY:Y=Y.take (Y.length - X.length)++Y.drop (Y.length - X.length):=(List.take_append_drop _ _).symm
   have l1:(Y.take (Y.length - X.length)).length=Y.length - X.length:=by rw[List.length_take];omega
   have l2:(Y.drop (Y.length - X.length)).length=X.length:=by rw[List.length_drop];omega
   generalize Y.take (Y.length - X.length)=Y1 at *
   generalize Y.drop (Y.length - X.length)=Y2 at *
   have hYl:Y.length=Y1.length+Y2.length:=by rw[hY,List.length_append]
   obtain⟨A',X',Y',Z',k,e,r⟩:=Wu m s A Y2 Y1 (X++Z) (by omega) (by omega) (by omega) (by omega) (by rw[List.length_append];omega)
   refine⟨A',X',Y',Z',k,?_,r.1,r.2.1,r.2.2.1,?_,r.2.2.2.2⟩
   ·refine Cr (g':=(A++(Y2++(Y1++(X++Z))),(Y2.length:Int),(Y1.length:Int))) ?_ e
    unfold Bl
    simp only
    have sw:=Qk (a:=m - X.length) (b:=m+Y.length - X.length) (X:=X) (Y:=Y2) (A:=A) (B:=Y1) (Z:=Z) (by omega) (by omega) (by omega) (by omega) (n:=(X.length:Int)) rfl
    rw[show ((X.length:Int) != (Y.length:Int))=true from by simp;omega,br_true,Bt (by omega),Aj (by omega) (by omega),Aj (by omega) (by omega),Aj (by omega) (by omega),hY,List.append_assoc,show (((Y1++Y2).length:Nat):Int)=(Y.length:Int) from by rw[←hY],sw,bd_ret,Aj (by omega) (by omega)]
    rw[l2,show (Y.length:Int) - X.length=(Y1.length:Int) from by omega]
   ·rw[r.2.2.2.1,hY];simp
  ·skip
   refine⟨A,X,Y,Z,X.length,?_,rfl,c.symm,hm,rfl,by omega⟩
   rw[show (Y.length:Int)=(X.length:Int) from by omega]
   refine C0 ?_
   unfold Bl
   simp only
   rw[show ((X.length:Int) != (X.length:Int))=false from by simp,br_false]
  ·have hX:X=X.take Y.length++X.drop Y.length:=(List.take_append_drop _ _).symm
   have l1:(X.take Y.length).length=Y.length:=by rw[List.length_take];omega
   have l2:(X.drop Y.length).length=X.length - Y.length:=by rw[List.length_drop]
   generalize X.take Y.length=X1 at *
   generalize X.drop Y.length=X2 at *
   have hXl:X.length=X1.length+X2.length:=by rw[hX,List.length_append]
   obtain⟨A',X',Y',Z',k,e,r⟩:=Wu m s (A++Y) X2 X1 Z (by omega) (by omega) (by omega) (by rw[List.length_append];omega) (by rw[List.length_append];omega)
   refine⟨A',X',Y',Z',k,?_,r.1,r.2.1,r.2.2.1,?_,r.2.2.2.2⟩
   ·refine Cr (g':=((A++Y)++(X2++(X1++Z)),(X2.length:Int),(X1.length:Int))) ?_ e
    unfold Bl
    simp only
    have sw:=Qk (a:=m - X.length) (b:=m) (X:=X1) (Y:=Y) (A:=A) (B:=X2) (Z:=Z) (by omega) (by omega) (by omega) (by omega) (n:=(Y.length:Int)) (by omega)
    rw[show ((X.length:Int) != (Y.length:Int))=true from by simp;omega,br_true,Bu (by omega),Aj (by omega) (by omega),show A++(X++(Y++Z))=A++(X1++(X2++(Y++Z))) from by rw[hX];simp,sw,bd_ret,Aj (by omega) (by omega)]
    rw[l1,show (X.length:Int) - Y.length=(X2.length:Int) from by omega,List.append_assoc]
   ·rw[r.2.2.2.1,hX];simp
theorem Akg {A X Y Z:List Due} (h1:1≤X.length) (h2:1≤Y.length) (hs:A.length+X.length+Y.length+Z.length≤1000000) {a m b:Int} (ha:a=A.length) (hm:m=A.length+X.length) (hb:b=A.length+X.length+Y.length) :
  B7 (A++(X++(Y++Z))) a m b=some (A++(Y++(X++Z))):=by
 obtain⟨A',X',Y',Z',k,e,r1,r2,r3,r4,r5⟩:=Wu m (X.length+Y.length) A X Y Z (Nat.le_refl _) h1 h2 (by omega) hs
 unfold B7
 have sw:=Qk (a:=m - k) (b:=m) (X:=X') (Y:=Y') (A:=A') (B:=[]) (Z:=Z') (by omega) (by omega) (by simp;omega) (by simp;omega) (n:=(k:Int)) (by omega)
 rw[Aj (by omega) (by omega),Aj (by omega) (by omega),show m - a=(X.length:Int) from by omega,show b - m=(Y.length:Int) from by omega,e,bd_ret,Out.on_go]
 simp only
 rw[Aj (by omega) (by omega),show A'++(X'++(Y'++Z'))=A'++(X'++([]++(Y'++Z'))) from rfl,sw,bd_ret,←r4]
 rfl
def In9 (d:Due):Prop:=0≤d.due∧d.due≤1000000000
theorem Acb {x y:Due} (hx:In9 x) (hy:In9 y):Ca x y=some (x.due - y.due):=by
 obtain⟨_,_⟩:=hx
 obtain⟨_,_⟩:=hy
 unfold Ca
 rw[Aj (by omega) (by omega)]
theorem Jz {a b:List Due}:K7 (a++b)↔K7 a∧K7 b∧∀ x∈a,∀ y∈b,x.due≤y.due:=List.pairwise_append
theorem Ti {x:Due}{b:List Due}:K7 (x::b)↔(∀ y∈b,x.due≤y.due)∧K7 b:=List.pairwise_cons
theorem Aay:K7 []:=List.Pairwise.nil
theorem Aed {l:List Due}{i:Int}{z:Due}:ln (upd l i z)=ln l:=by unfold ln;rw[Ck]
theorem Ac6 (A:List Due) (x:Due) (hx:In9 x):∀ (n:Nat) (P W:List Due),P.length=n→(∀ d∈P,In9 d)→K7 P→A.length+P.length+1+W.length≤1000000 →
  ∃ P1 P2,P=P1++P2∧(∀ d∈P2,x.due<d.due)∧(∀ d∈P1,d.due≤x.due)∧lp (A9 (A.length:Int)) (A++(P++(x::W)),((A.length+P.length:Nat):Int))=some (.go (A++(P1++(x::(P2++W))),((A.length+P1.length:Nat):Int)))
 | 0,P,W,hn,_,_,hs=>by
  obtain rfl:=List.eq_nil_of_length_eq_zero hn
  refine⟨[],[],rfl,fun d hd=>(by cases hd),fun d hd=>(by cases hd),C0 ?_⟩
  unfold A9
  simp only
  rw[show decide ((((A.length+([]:List Due).length:Nat)):Int)>(A.length:Int))=false from by simp]
  rw[Fb (fun h=>by cases h),Fb (fun h=>by cases h),Fb (fun h=>by cases h),bdG_f]
  rfl
 | n+1,P,W,hn,hb,hP,hs=>by
  obtain⟨L,y,rfl⟩:∃ L y,P=L++[y]:=by
   rcases List.eq_nil_or_concat P with rfl | ⟨L,y,rfl⟩
   ·cases hn
   ·exact⟨L,y,by simp⟩
  have hll:(L++[y]).length=L.length+1:=by simp
  rw[hll] at hn hs
  obtain⟨p1,p2,p3⟩:=Jz.1 hP
  have hy:=hb y (by simp)
  have e1:A++((L++[y])++(x::W))=(A++L)++y::(x::W):=by simp
  have e2:A++((L++[y])++(x::W))=(A++(L++[y]))++x::W:=by simp
  have q1:ele (A++((L++[y])++(x::W))) ((A.length+(L++[y]).length:Nat):Int)=x:=by rw[e2];exact Mf (congrArg Nat.cast List.length_append.symm)
  have q2:ele (A++((L++[y])++(x::W))) (((A.length+(L++[y]).length:Nat):Int) - 1)=y:=by rw[e1];exact Mf (by simp only[List.length_append,List.length_singleton];omega)
  have hln:ln (A++((L++[y])++(x::W)))=((A.length+(L.length+1)+(W.length+1):Nat):Int):=by unfold ln;simp only[List.length_append,List.length_cons,List.length_singleton];simp;omega
  by_cases c:x.due<y.due
  ·obtain⟨P1,P2,h1,h2,h3,h4⟩:=Ac6 A x hx n L (y::W) (by omega) (fun d hd=>hb d (by simp[hd])) p1 (by simp only[List.length_cons];omega)
   refine⟨P1,P2++[y],by rw[h1];simp,fun d hd=>?_,h3,?_⟩
   ·rcases List.mem_append.1 hd with hd | hd
    ·exact h2 d hd
    ·rw[List.mem_singleton.1 hd];exact c
   ·refine Cr (g':=(A++(L++(x::(y::W))),((A.length+L.length:Nat):Int))) ?_ ?_
    ·unfold A9
     simp only
     rw[show decide (((A.length+(L++[y]).length:Nat):Int)>(A.length:Int))=true from decide_eq_true (by rw[hll];omega)]
     rw[Fb (fun _=>⟨by omega,by rw[hln,hll];omega⟩),Fb (fun _=>⟨by rw[hll];omega,by rw[hll];omega⟩),Fb (fun _=>⟨by rw[hll];omega,by rw[hln,hll];omega⟩),bdG_t,q1,q2,Acb hx hy,bd_ret,Bool.true_and,Bu (by omega),Aj (by rw[hll];omega) (by rw[hll];omega),Aj (by rw[hll];omega) (by rw[hll];omega),
      Av (by rw[hll];omega) (by rw[hln,hll];omega),Av (by omega) (by rw[hln,hll];omega),Av (by omega) (by rw[hln,hll];omega),Aed,Av (by rw[hll];omega) (by rw[hln,hll];omega),Aj (by rw[hll];omega) (by rw[hll];omega)]
     rw[e2,Nh (congrArg Nat.cast List.length_append.symm),show (A++(L++[y]))++y::W=(A++L)++y::(y::W) from by simp,Nh (by simp only[List.length_append,List.length_singleton];omega),hll]
     rw[show ((A.length+(L.length+1):Nat):Int) - 1=((A.length+L.length:Nat):Int) from by omega,List.append_assoc]
    ·rw[h4];simp
  ·refine⟨L++[y],[],by simp,fun d hd=>(by cases hd),fun d hd=>?_,?_⟩
   ·rcases List.mem_append.1 hd with hd | hd
    ·have:=p3 d hd y (by simp);omega
    ·rw[List.mem_singleton.1 hd];omega
   ·refine C0 ?_
    unfold A9
    simp only
    rw[show decide (((A.length+(L++[y]).length:Nat):Int)>(A.length:Int))=true from decide_eq_true (by rw[hll];omega)]
    rw[Fb (fun _=>⟨by omega,by rw[hln,hll];omega⟩),Fb (fun _=>⟨by rw[hll];omega,by rw[hll];omega⟩),Fb (fun _=>⟨by rw[hll];omega,by rw[hln,hll];omega⟩),bdG_t,q1,q2,Acb hx hy,bd_ret,Bool.true_and,Bt (by omega)]
    rfl
theorem Zl (A Z:List Due) {b:Int}:∀ (W S:List Due),(∀ d∈S++W,In9 d)→K7 S→(A.length:Int)+S.length+W.length=b→A.length+S.length+W.length+Z.length≤1000000 →
  ∃ S',K7 S'∧Stb (S++W) S'∧lp (A5 (A.length:Int) b) (A++(S++(W++Z)),((A.length+S.length:Nat):Int))=some (.go (A++(S'++Z),b))
 | [],S,_,hS,hb,_=>by
  refine⟨S,hS,by rw[List.append_nil];exact F8 S,?_⟩
  simp only[List.length_nil] at hb
  rw[show ((A.length+S.length:Nat):Int)=b from by omega]
  refine C0 ?_
  unfold A5
  exact Bt (by omega)
 | x::W,S,hi,hS,hb,hs=>by
  simp only[List.length_cons] at hb hs
  obtain⟨P1,P2,h1,h2,h3,h4⟩:=Ac6 A x (hi x (by simp)) S.length S (W++Z) rfl (fun d hd=>hi d (by simp[hd])) hS (by rw[List.length_append];omega)
  have hl:S.length=P1.length+P2.length:=by rw[h1,List.length_append]
  have hS2:=hS
  rw[h1] at hS2
  obtain⟨s1,s2,s3⟩:=Jz.1 hS2
  obtain⟨S',k1,k2,k3⟩:=Zl A Z (b:=b) W (P1++x::P2) (fun d hd=>hi d (by rw[h1];simp at hd ⊢;rcases hd with h | h | h | h <;> simp[h])) (Jz.2 ⟨s1,Ti.2 ⟨fun d hd=>by have:=h2 d hd;omega,s2⟩,fun p hp q hq=>by
   rcases List.mem_cons.1 hq with rfl | hq
   ·exact h3 p hp
   ·exact s3 p hp q hq⟩) (by simp only[List.length_append,List.length_cons];omega) (by simp only[List.length_append,List.length_cons];omega)
  refine⟨S',k1,?_,?_⟩
  ·refine Stb.trans ?_ k2
   rw[h1,show (P1++P2)++x::W=P1++((P2++[x])++W) from by simp,show (P1++x::P2)++W=P1++(([x]++P2)++W) from by simp]
   exact Stb.app (F8 _) (Stb.app (Ts fun a ha b hb=>by rw[List.mem_singleton.1 hb];exact h2 a ha) (F8 _))
  ·refine Cr (g':=(A++((P1++x::P2)++(W++Z)),((A.length+(P1++x::P2).length:Nat):Int))) ?_ k3
   unfold A5
   simp only
   rw[Bu (by omega),show A++(S++(x::W++Z))=A++(S++(x::(W++Z))) from by simp,h4,bd_ret,Out.on_go]
   simp only
   rw[Aj (by omega) (by omega)]
   rw[show A++(P1++x::(P2++(W++Z)))=A++((P1++x::P2)++(W++Z)) from by simp,show ((A.length+S.length:Nat):Int)+1=((A.length+(P1++x::P2).length:Nat):Int) from by simp only[List.length_append,List.length_cons];omega]
theorem Vj {A S Z:List Due} (hi:∀ d∈S,In9 d) (h1:1≤S.length) (hs:A.length+S.length+Z.length≤1000000) {a b:Int} (ha:a=A.length) (hb:b=A.length+S.length) :
  ∃ S',K7 S'∧Stb S S'∧A1 (A++(S++Z)) a b=some (A++(S'++Z)):=by
 cases S with
 | nil=>simp at h1
 | cons x W =>
  simp only[List.length_cons] at hb hs
  obtain⟨S',k1,k2,k3⟩:=Zl A Z (b:=b) W [x] hi (Ti.2 ⟨fun y hy=>(by cases hy),Aay⟩) (by simp only[List.length_singleton];omega) (by simp only[List.length_singleton];omega)
  refine⟨S',k1,k2,?_⟩
  unfold A1
  rw[Aj (by omega) (by omega),ha,show A++(x::W++Z)=A++([x]++(W++Z)) from by simp,show (A.length:Int)+1=((A.length + [x].length:Nat):Int) from by simp,k3,bd_ret,Out.on_go]
theorem Adv {D:List Due}{a b:Int} (h:b≤a+1) (h0:0≤a) (h1:a≤1000000):A1 D a b=some D:=by
 unfold A1
 rw[Aj (by omega) (by omega),show lp (A5 a b) (D,a+1)=some (.go (D,a+1)) from C0 (by unfold A5;exact Bt (by omega)),bd_ret,Out.on_go]
theorem Aaf {n:Int} (h0:0≤n) (h1:n≤10000000):IntKind.i64.wrap (shrD (IntKind.u64.wrap n) 1)=n / 2:=by
 have e1:IntKind.u64.wrap n=n:=by
  show n % (2 ^ 64:Int)=n
  exact Int.emod_eq_of_lt h0 (by omega)
 have e2:shrD n 1=n / 2:=by
  unfold shrD
  show Int.fdiv n (2 ^ (min (1:Int).toNat 64))=n / 2
  rw[show (2:Int) ^ (min (1:Int).toNat 64)=2 from rfl,Int.fdiv_eq_ediv_of_nonneg _ (by omega)]
 rw[e1,e2]
 exact Dr (by omega) (by omega)
theorem Tc {ρ:Type}{f:Int×Int→Option (Stp (Int×Int) ρ)} (P:Nat→Prop) {lo hi:Nat} (mono:∀ x y,lo≤x→x≤y→y<hi→P y→P x)
  (step:∀ i j:Nat,lo≤i→i<j→j≤hi→(P ((i+j) / 2)→f ((i:Int),(j:Int))=some (.next (((((i+j) / 2:Nat):Int)+1),(j:Int))))∧(¬P ((i+j) / 2)→f ((i:Int),(j:Int))=some (.next ((i:Int),(((i+j) / 2:Nat):Int)))))
  (hend:∀ i:Nat,f ((i:Int),(i:Int))=some (.brk ((i:Int),(i:Int)))):∀ (s i j:Nat),j - i≤s→lo≤i→i≤j→j≤hi→(∀ x,lo≤x→x<i→P x)→(∀ x,j≤x→x<hi→¬P x) →
  ∃ k:Nat,i≤k∧k≤j∧(∀ x,lo≤x→x<k→P x)∧(∀ x,k≤x→x<hi→¬P x)∧lp f ((i:Int),(j:Int))=some (.go ((k:Int),(k:Int)))
 | 0,i,j,h,h1,h2,h3,h4,h5=>by
  obtain rfl:i=j:=by omega
  exact⟨i,by omega,by omega,h4,h5,C0 (hend i)⟩
 | s+1,i,j,h,h1,h2,h3,h4,h5=>by
  by_cases e:i=j
  ·subst e
   exact⟨i,by omega,by omega,h4,h5,C0 (hend i)⟩
  ·have hij:i<j:=by omega
   obtain⟨s1,s2⟩:=step i j h1 hij h3
   by_cases c:P ((i+j) / 2)
   ·obtain⟨k,k1,k2,k3,k4,k5⟩:=Tc P mono step hend s ((i+j) / 2+1) j (by omega) (by omega) (by omega) h3 (fun x hx hlt=>mono x _ hx (by omega) (by omega) c) h5
    exact⟨k,by omega,k2,k3,k4,Cr (s1 c) k5⟩
   ·obtain⟨k,k1,k2,k3,k4,k5⟩:=Tc P mono step hend s i ((i+j) / 2) (by omega) h1 (by omega) (by omega) h4 (fun x hx hlt hp=>c (mono _ x (by omega) hx hlt hp))
    exact⟨k,k1,by omega,k3,k4,Cr (s2 c) k5⟩
theorem Zq {P W:List Due}{i:Nat} (h:i<P.length):ele (P++W) (i:Int)=ele P (i:Int):=by
 rw[Cs,Cs,List.getD_eq_getElem?_getD,List.getD_eq_getElem?_getD,List.getElem?_append_left h]
theorem Uw {P W:List Due}{i:Nat}:ele (P++W) ((P.length+i:Nat):Int)=ele W (i:Int):=by
 rw[Cs,Cs,List.getD_eq_getElem?_getD,List.getD_eq_getElem?_getD,List.getElem?_append_right (by omega),Nat.add_sub_cancel_left]
theorem Py {l:List Due} (h:K7 l) {i j:Nat} (hij:i≤j) (hj:j<l.length):(ele l (i:Int)).due≤(ele l (j:Int)).due:=by
 rcases Nat.lt_or_ge i j with c | c
 ·have:=List.pairwise_iff_getElem.1 h i j (by omega) hj c
  simpa [Cs,List.getD_eq_getElem?_getD,hj,show i<l.length from by omega] using this
 ·obtain rfl:i=j:=by omega
  exact Int.le_refl _
theorem Alq {l:List Due}{n:Nat}{d:Due} (h:d∈l.take n):∃ i:Nat,i<n∧i<l.length∧ele l (i:Int)=d:=by
 obtain⟨i,hi,rfl⟩:=List.getElem_of_mem h
 rw[List.length_take] at hi
 exact⟨i,by omega,by omega,by rw[List.getElem_take,Cs,List.getD_eq_getElem?_getD,List.getElem?_eq_getElem (by omega)];rfl⟩
theorem Alr {l:List Due}{n:Nat}{d:Due} (h:d∈l.drop n):∃ i:Nat,n≤i∧i<l.length∧ele l (i:Int)=d:=by
 obtain⟨i,hi,rfl⟩:=List.getElem_of_mem h
 rw[List.length_drop] at hi
 exact⟨n+i,by omega,by omega,by rw[List.getElem_drop,Cs,List.getD_eq_getElem?_getD,List.getElem?_eq_getElem (by omega)];rfl⟩
theorem Ai7 (x:Due) {i:Int}:∀ (R A W:List Due),i - 1=(A.length:Int)+R.length→A.length+1+R.length+W.length≤1000000 →
  lp (Br i) (A++x::(R++W),(A.length:Int))=some (.go (A++(R++x::W),((A.length+R.length:Nat):Int)))
 | [],A,W,h,hs=>by
  simp only[List.length_nil] at h hs
  refine C0 ?_
  unfold Br
  simp only
  rw[Aj (by omega) (by omega)]
  exact Bt (by omega)
 | y::R,A,W,h,hs=>by
  simp only[List.length_cons] at h hs
  have ih:=Ai7 x (i:=i) R (A++[y]) W (by rw[List.length_append,List.length_singleton];omega) (by rw[List.length_append,List.length_singleton];omega)
  have e1:A++x::(y::R++W)=(A++[x])++y::(R++W):=by simp
  have hln:ln (A++x::(y::R++W))=((A.length+2+R.length+W.length:Nat):Int):=by unfold ln;simp only[List.length_append,List.length_cons];omega
  have q1:ele (A++x::(y::R++W)) (A.length:Int)=x:=Mf rfl
  have q2:ele (A++x::(y::R++W)) ((A.length:Int)+1)=y:=by rw[e1];exact Mf (by simp)
  refine Cr (g':=((A++[y])++x::(R++W),((A++[y]).length:Int))) ?_ ?_
  ·unfold Br
   simp only
   rw[Aj (by omega) (by omega),Bu (by omega),Aj (by omega) (by omega),Aj (by omega) (by omega),Av (by omega) (by rw[hln];omega),Av (by omega) (by rw[hln];omega),Av (by omega) (by rw[hln];omega),Aed,Av (by omega) (by rw[hln];omega),Aj (by omega) (by omega),q1,q2,Nh rfl,
    show A++y::(y::R++W)=(A++[y])++y::(R++W) from by simp,Nh (by simp)]
   rw[show ((A++[y]).length:Int)=(A.length:Int)+1 from by simp]
  ·rw[ih,show (A++[y]).length+R.length=A.length+(y::R).length from by simp only[List.length_append,List.length_cons,List.length_nil];omega]
   simp
theorem Ai8 (y:Due) {i:Int}:∀ (n:Nat) (A R W:List Due),R.length=n→i=(A.length:Int)→A.length+1+R.length+W.length≤1000000 →
  lp (Bp i) (A++(R++y::W),((A.length+R.length:Nat):Int))=some (.go (A++y::(R++W),(A.length:Int)))
 | 0,A,R,W,hn,h,hs=>by
  obtain rfl:=List.eq_nil_of_length_eq_zero hn
  refine C0 ?_
  unfold Bp
  exact Bt (by simp;omega)
 | n+1,A,R,W,hn,h,hs=>by
  obtain⟨L,x,rfl⟩:∃ L x,R=L++[x]:=by
   rcases List.eq_nil_or_concat R with rfl | ⟨L,x,rfl⟩
   ·cases hn
   ·exact⟨L,x,by simp⟩
  have hll:(L++[x]).length=L.length+1:=by simp
  rw[hll] at hn hs
  have ih:=Ai8 y (i:=i) n A L (x::W) (by omega) h (by simp only[List.length_cons];omega)
  have e1:A++((L++[x])++y::W)=(A++L)++x::(y::W):=by simp
  have e2:A++((L++[x])++y::W)=(A++(L++[x]))++y::W:=by simp
  have hln:ln (A++((L++[x])++y::W))=((A.length+L.length+2+W.length:Nat):Int):=by unfold ln;simp only[List.length_append,List.length_cons,List.length_nil];omega
  have q1:ele (A++((L++[x])++y::W)) ((A.length+(L++[x]).length:Nat):Int)=y:=by rw[e2];exact Mf (congrArg Nat.cast List.length_append.symm)
  have q2:ele (A++((L++[x])++y::W)) (((A.length+(L++[x]).length:Nat):Int) - 1)=x:=by rw[e1];exact Mf (by rw[hll,List.length_append];omega)
  refine Cr (g':=(A++(L++y::(x::W)),((A.length+L.length:Nat):Int))) ?_ ?_
  ·unfold Bp
   simp only
   rw[Bu (by rw[hll];omega),Aj (by rw[hll];omega) (by rw[hll];omega),Aj (by rw[hll];omega) (by rw[hll];omega),Av (by rw[hll];omega) (by rw[hln,hll];omega),Av (by omega) (by rw[hln,hll];omega),Av (by omega) (by rw[hln,hll];omega),Aed,Av (by rw[hll];omega) (by rw[hln,hll];omega),Aj (by rw[hll];omega) (by rw[hll];omega),q1,q2,
    e2,Nh (congrArg Nat.cast List.length_append.symm),show (A++(L++[x]))++x::W=(A++L)++x::(x::W) from by simp,Nh (by rw[hll,List.length_append];omega),hll]
   rw[show ((A.length+(L.length+1):Nat):Int) - 1=((A.length+L.length:Nat):Int) from by omega,List.append_assoc]
  ·rw[ih];simp
theorem app4 (a b c d:List Due):(a++b)++(c++d)=a++((b++c)++d):=by simp
theorem O7:∀ (fl:Nat) (A L R Z:List Due),1≤L.length→1≤R.length→L.length+R.length≤2 ^ fl→K7 L→K7 R→(∀ d∈L++R,In9 d)→A.length+L.length+R.length+Z.length≤1000000 →
  ∃ S,K7 S∧Stb (L++R) S∧Al (fl+1) (A++(L++(R++Z))) (A.length:Int) ((A.length+L.length:Nat):Int) ((A.length+L.length+R.length:Nat):Int)=some (A++(S++Z))
 | fl,A,L,R,Z,hL1,hR1,hfl,hL,hR,hi,hs=>by
  have hiL:∀ i:Nat,i<L.length→In9 (ele L (i:Int)):=fun i h=>hi _ (List.mem_append.2 (.inl (Cv h)))
  have hiR:∀ i:Nat,i<R.length→In9 (ele R (i:Int)):=fun i h=>hi _ (List.mem_append.2 (.inr (Cv h)))
  generalize hD:A++(L++(R++Z))=D
  have hln:ln D=((A.length+L.length+R.length+Z.length:Nat):Int):=by rw[←hD];unfold ln;simp only[List.length_append];omega
  have dL:∀ i:Nat,i<L.length→ele D ((A.length+i:Nat):Int)=ele L (i:Int):=fun i h=>by rw[←hD,Uw,Zq h]
  have dR:∀ i:Nat,i<R.length→ele D ((A.length+L.length+i:Nat):Int)=ele R (i:Int):=fun i h=>by rw[←hD,Nat.add_assoc,Uw,Uw,Zq h]
  unfold Al
  rw[Aj (by omega) (by omega)]
  by_cases c1:L.length=1
  ·skip
   obtain⟨x,rfl⟩:=List.length_eq_one_iff.1 c1
   have hx:In9 x:=hi x (by simp)
   have dx:ele D (A.length:Int)=x:=dL 0 (by simp)
   obtain⟨k,k1,k2,k3,k4,k5⟩:=Tc (f:=Bs D (A.length:Int)) (ρ:=Empty) (fun h=>(ele D (h:Int)).due<x.due) (lo:=A.length+1) (hi:=A.length+1+R.length) (fun p q h1 h2 h3 h4=>by
     obtain⟨p',rfl⟩:∃ p',p=A.length+1+p':=⟨p - (A.length+1),by omega⟩
     obtain⟨q',rfl⟩:∃ q',q=A.length+1+q':=⟨q - (A.length+1),by omega⟩
     have e1:=dR p' (by omega);have e2:=dR q' (by omega)
     rw[c1] at e1 e2
     rw[e2] at h4
     rw[e1]
     have:=Py hR (i:=p') (j:=q') (by omega) (by omega)
     omega) (fun i j h1 h2 h3=>by
     obtain⟨t,ht⟩:∃ t,(i+j) / 2=A.length+1+t:=⟨(i+j) / 2 - (A.length+1),by omega⟩
     have e1:=dR t (by omega)
     rw[c1,←ht] at e1
     have hy:=hiR t (by omega)
     rw[←e1] at hy
     have hh:((i:Int)+j) / 2=(((i+j) / 2:Nat):Int):=by omega
     unfold Bs
     simp only
     rw[Bu (by omega),Aj (by omega) (by omega),Aaf (by omega) (by omega),hh,Av (by omega) (by rw[hln];omega),Av (by omega) (by rw[hln];omega),dx,Acb hy hx,bd_ret]
     exact⟨fun h=>by rw[Bu (by omega),Aj (by omega) (by omega)],fun h=>by rw[Bt (by omega)]⟩) (fun i=>by unfold Bs;exact Bt (by omega)) (R.length) (A.length+1) (A.length+1+R.length) (by omega) (by omega) (by omega) (by omega) (fun y h1 h2=>by omega) (fun y h1 h2=>by omega)
   obtain⟨t,ht⟩:∃ t,k=A.length+1+t:=⟨k - (A.length+1),by omega⟩
   have hRs:R=R.take t++R.drop t:=(List.take_append_drop _ _).symm
   have hT:∀ d∈R.take t,d.due<x.due:=fun d hd=>by
    obtain⟨i,i1,i2,rfl⟩:=Alq hd
    have:=k3 (A.length+1+i) (by omega) (by omega)
    have e1:=dR i i2
    rw[c1] at e1
    rw[e1] at this
    exact this
   have hDr:∀ d∈R.drop t,x.due≤d.due:=fun d hd=>by
    obtain⟨i,i1,i2,rfl⟩:=Alr hd
    have:=k4 (A.length+1+i) (by omega) (by omega)
    have e1:=dR i i2
    rw[c1] at e1
    rw[e1] at this
    omega
   have htl:(R.take t).length=t:=by rw[List.length_take];omega
   have hR':=hR
   rw[hRs] at hR'
   obtain⟨r1,r2,r3⟩:=Jz.1 hR'
   refine⟨R.take t++x::R.drop t,Jz.2 ⟨r1,Ti.2 ⟨hDr,r2⟩,fun p hp q hq=>?_⟩,?_,?_⟩
   ·have:=hT p hp
    rcases List.mem_cons.1 hq with rfl | hq
    ·omega
    ·have:=hDr q hq;omega
   ·conv=>lhs;rw[hRs]
    rw[show [x]++(R.take t++R.drop t)=([x]++R.take t)++R.drop t from by simp,show R.take t++x::R.drop t=(R.take t++[x])++R.drop t from by simp]
    exact Stb.app (Ts fun a ha b hb=>by rw[List.mem_singleton.1 ha];exact hT b hb) (F8 _)
   ·rw[show ((((A.length + [x].length:Nat)):Int) - (A.length:Int)==1)=true from by rw[c1];simp;omega,br_true]
    rw[show ((A.length + [x].length:Nat):Int)=((A.length+1:Nat):Int) from rfl,show ((A.length + [x].length+R.length:Nat):Int)=((A.length+1+R.length:Nat):Int) from rfl,k5,bd_ret,Out.on_go]
    simp only
    have sh:=Ai7 x (i:=(k:Int)) (R.take t) A (R.drop t++Z) (by rw[htl];omega) (by rw[htl,List.length_append,List.length_drop];simp only[List.length_singleton] at hs;omega)
    have hDe:D=A++x::(R.take t++(R.drop t++Z)):=by
     rw[←hD,show R++Z=R.take t++(R.drop t++Z) from by rw[←List.append_assoc,List.take_append_drop]];rfl
    rw[hDe,sh,bd_ret,Out.on_go]
    simp
  rw[show ((((A.length+L.length:Nat)):Int) - (A.length:Int)==1)=false from by simp;omega,br_false,Aj (by omega) (by omega)]
  by_cases c2:R.length=1
  ·skip
   obtain⟨y,rfl⟩:=List.length_eq_one_iff.1 c2
   have hy:In9 y:=hi y (by simp)
   have dy:ele D ((A.length+L.length:Nat):Int)=y:=dR 0 (by simp)
   obtain⟨k,k1,k2,k3,k4,k5⟩:=Tc (f:=Bq D ((A.length+L.length:Nat):Int)) (ρ:=Empty) (fun h=>(ele D (h:Int)).due≤y.due) (lo:=A.length) (hi:=A.length+L.length) (fun p q h1 h2 h3 h4=>by
     obtain⟨p',rfl⟩:∃ p',p=A.length+p':=⟨p - A.length,by omega⟩
     obtain⟨q',rfl⟩:∃ q',q=A.length+q':=⟨q - A.length,by omega⟩
     rw[dL q' (by omega)] at h4
     rw[dL p' (by omega)]
     have:=Py hL (i:=p') (j:=q') (by omega) (by omega)
     omega) (fun i j h1 h2 h3=>by
     obtain⟨t,ht⟩:∃ t,(i+j) / 2=A.length+t:=⟨(i+j) / 2 - A.length,by omega⟩
     have e1:=dL t (by omega)
     rw[←ht] at e1
     have hx:=hiL t (by omega)
     rw[←e1] at hx
     have hh:((i:Int)+j) / 2=(((i+j) / 2:Nat):Int):=by omega
     unfold Bq
     simp only
     rw[Bu (by omega),Aj (by omega) (by omega),Aaf (by omega) (by omega),hh,Av (by omega) (by rw[hln];omega),Av (by omega) (by rw[hln];omega),dy,Acb hy hx,bd_ret]
     exact⟨fun h=>by rw[decide_eq_false (by omega),Bool.not_false,br_true,Aj (by omega) (by omega)],fun h=>by rw[decide_eq_true (by omega),Bool.not_true,br_false]⟩) (fun i=>by unfold Bq;exact Bt (by omega)) (L.length) A.length (A.length+L.length) (by omega) (by omega) (by omega) (by omega) (fun y h1 h2=>by omega) (fun y h1 h2=>by omega)
   obtain⟨t,ht⟩:∃ t,k=A.length+t:=⟨k - A.length,by omega⟩
   have hLs:L=L.take t++L.drop t:=(List.take_append_drop _ _).symm
   have hT:∀ d∈L.take t,d.due≤y.due:=fun d hd=>by
    obtain⟨i,i1,i2,rfl⟩:=Alq hd
    have:=k3 (A.length+i) (by omega) (by omega)
    rw[dL i i2] at this
    exact this
   have hDr:∀ d∈L.drop t,y.due<d.due:=fun d hd=>by
    obtain⟨i,i1,i2,rfl⟩:=Alr hd
    have:=k4 (A.length+i) (by omega) (by omega)
    rw[dL i i2] at this
    omega
   have htl:(L.take t).length=t:=by rw[List.length_take];omega
   have hL':=hL
   rw[hLs] at hL'
   obtain⟨r1,r2,r3⟩:=Jz.1 hL'
   refine⟨L.take t++y::L.drop t,Jz.2 ⟨r1,Ti.2 ⟨fun d hd=>by have:=hDr d hd;omega,r2⟩,fun p hp q hq=>?_⟩,?_,?_⟩
   ·rcases List.mem_cons.1 hq with rfl | hq
    ·exact hT p hp
    ·exact r3 p hp q hq
   ·rw[show L++[y]=L.take t++(L.drop t++[y]) from by rw[←List.append_assoc,List.take_append_drop],show L.take t++y::L.drop t=L.take t++([y]++L.drop t) from by simp]
    exact Stb.app (F8 _) (Ts fun a ha b hb=>by rw[List.mem_singleton.1 hb];exact hDr a ha)
   ·rw[show ((((A.length+L.length + [y].length:Nat)):Int) - ((A.length+L.length:Nat):Int)==1)=true from by rw[c2];simp;omega,br_true,k5,bd_ret,Out.on_go]
    simp only
    have hdl:(L.drop t).length=L.length - t:=List.length_drop
    have sh:=Ai8 y (i:=(k:Int)) (L.length - t) (A++L.take t) (L.drop t) Z hdl (by rw[List.length_append,htl];omega) (by rw[List.length_append,htl,hdl];simp only[List.length_singleton] at hs;omega)
    have hDe:D=(A++L.take t)++(L.drop t++y::Z):=by
     rw[←hD,show L++([y]++Z)=L.take t++(L.drop t++([y]++Z)) from by rw[←List.append_assoc (L.take t),List.take_append_drop],List.append_assoc];rfl
    rw[hDe,show ((A.length+L.length:Nat):Int)=(((A++L.take t).length+(L.drop t).length:Nat):Int) from by rw[List.length_append,htl,hdl];omega,sh,bd_ret,Out.on_go]
    simp
  rw[show ((((A.length+L.length+R.length:Nat)):Int) - ((A.length+L.length:Nat):Int)==1)=false from by simp;omega,br_false,Aj (by omega) (by omega)]
  -- halves
  obtain⟨M,hM⟩:∃ M:Nat,M=(A.length+(A.length+L.length+R.length)) / 2:=⟨_,rfl⟩
  have hmid:IntKind.i64.wrap (shrD (IntKind.u64.wrap ((A.length:Int)+((A.length+L.length+R.length:Nat):Int))) 1)=(M:Int):=by rw[Aaf (by omega) (by omega)];omega
  rw[hmid,Aj (by omega) (by omega)]
  obtain⟨s0,r0,hgo,g1,g2,g3,g4,g5,g6,g7⟩:∃ s0 r0:Nat,(br (decide (((A.length+L.length:Nat):Int)>(M:Int))) (ck (IR ((M:Int)+((A.length+L.length:Nat):Int) - ((A.length+L.length+R.length:Nat):Int))) (some (Out.go ((M:Int)+((A.length+L.length:Nat):Int) - ((A.length+L.length+R.length:Nat):Int),(M:Int)):Out (Int×Int) Empty))) (some (.go ((A.length:Int),((A.length+L.length:Nat):Int))))=some (.go ((s0:Int),(r0:Int))))∧A.length≤s0∧s0≤r0∧r0≤M∧r0≤A.length+L.length∧(s0=A.length∨s0+(A.length+L.length+R.length)=M+(A.length+L.length))∧(r0=M∨r0=A.length+L.length)∧M+(A.length+L.length)≤s0+(A.length+L.length+R.length):=by
   by_cases c:((A.length+L.length:Nat):Int)>(M:Int)
   ·refine⟨M+(A.length+L.length) - (A.length+L.length+R.length),M,?_,by omega,by omega,by omega,by omega,by omega,by omega,by omega⟩
    rw[Bu c,Aj (by omega) (by omega),show (M:Int)+((A.length+L.length:Nat):Int) - ((A.length+L.length+R.length:Nat):Int)=((M+(A.length+L.length) - (A.length+L.length+R.length):Nat):Int) from by omega]
   ·exact⟨A.length,A.length+L.length,Bt c,by omega,by omega,by omega,by omega,by omega,by omega,by omega⟩
  rw[hgo,bd_ret,Out.on_go]
  simp only
  rw[Aj (by omega) (by omega)]
  obtain⟨k,k1,k2,k3,k4,k5⟩:=Tc (f:=Bo D (A.length:Int) ((A.length+L.length:Nat):Int) ((A.length+L.length+R.length:Nat):Int)) (ρ:=Empty) (fun h=>(ele D (h:Int)).due≤(ele D ((M+(A.length+L.length) - 1 - h:Nat):Int)).due) (lo:=s0) (hi:=r0) (fun p q h1 h2 h3 h4=>by
    obtain⟨p',hp'⟩:∃ p',p=A.length+p':=⟨p - A.length,by omega⟩
    obtain⟨q',hq'⟩:∃ q',q=A.length+q':=⟨q - A.length,by omega⟩
    rw[show M+(A.length+L.length) - 1 - q=A.length+L.length+(M - 1 - q) from by omega,dR _ (by omega),hq',dL q' (by omega)] at h4
    rw[show M+(A.length+L.length) - 1 - p=A.length+L.length+(M - 1 - p) from by omega,dR _ (by omega),hp',dL p' (by omega)]
    have e1:=Py hL (i:=p') (j:=q') (by omega) (by omega)
    have e2:=Py hR (i:=M - 1 - q) (j:=M - 1 - p) (by omega) (by omega)
    rw[hq',hp'] at e2
    omega) (fun i j h1 h2 h3=>by
    obtain⟨t,ht⟩:∃ t,(i+j) / 2=A.length+t:=⟨(i+j) / 2 - A.length,by omega⟩
    have e1:=dL t (by omega)
    rw[←ht] at e1
    have hx:=hiL t (by omega)
    rw[←e1] at hx
    have e2:=dR (M - 1 - (i+j) / 2) (by omega)
    rw[show A.length+L.length+(M - 1 - (i+j) / 2)=M+(A.length+L.length) - 1 - (i+j) / 2 from by omega] at e2
    have hy:=hiR (M - 1 - (i+j) / 2) (by omega)
    rw[←e2] at hy
    have hh:((i:Int)+j) / 2=(((i+j) / 2:Nat):Int):=by omega
    unfold Bo
    simp only
    rw[Bu (by omega),Aj (by omega) (by omega),hmid,Aaf (n:=(i:Int)+(j:Int)) (by omega) (by omega),hh,show (M:Int)+((A.length+L.length:Nat):Int) - 1 - (((i+j) / 2:Nat):Int)=((M+(A.length+L.length) - 1 - (i+j) / 2:Nat):Int) from by omega,Aj (by omega) (by omega),Av (by omega) (by rw[hln];omega),Av (by omega) (by rw[hln];omega),Acb hy hx,bd_ret]
    exact⟨fun h=>by rw[decide_eq_false (by omega),Bool.not_false,br_true,Aj (by omega) (by omega)],fun h=>by rw[decide_eq_true (by omega),Bool.not_true,br_false]⟩) (fun i=>by unfold Bo;exact Bt (by omega)) (r0 - s0) s0 r0 (by omega) (by omega) (by omega) (by omega) (fun y h1 h2=>by omega) (fun y h1 h2=>by omega)
  rw[k5,bd_ret,Out.on_go]
  simp only
  have hend:(M:Int)+((A.length+L.length:Nat):Int) - (k:Int)=((A.length+L.length+(M - k):Nat):Int):=by omega
  rw[hend,Aj (by omega) (by omega)]
  obtain⟨t,ht⟩:∃ t,k=A.length+t:=⟨k - A.length,by omega⟩
  obtain⟨u,hu⟩:∃ u,u=M - k:=⟨_,rfl⟩
  rw[←hu]
  have hLs:L=L.take t++L.drop t:=(List.take_append_drop _ _).symm
  have hRs:R=R.take u++R.drop u:=(List.take_append_drop _ _).symm
  have l1:(L.take t).length=t:=by rw[List.length_take];omega
  have l2:(L.drop t).length=L.length - t:=List.length_drop
  have l3:(R.take u).length=u:=by rw[List.length_take];omega
  have l4:(R.drop u).length=R.length - u:=List.length_drop
  have q1:∀ x∈L.drop t,∀ y∈R.take u,y.due<x.due:=fun x hx y hy=>by
   obtain⟨i,i1,i2,rfl⟩:=Alr hx
   obtain⟨j,j1,j2,rfl⟩:=Alq hy
   have:=k4 k (by omega) (by omega)
   rw[show M+(A.length+L.length) - 1 - k=A.length+L.length+(M - 1 - k) from by omega,dR _ (by omega),ht,dL t (by omega),←ht] at this
   have e1:=Py hL (i:=t) (j:=i) (by omega) i2
   have e2:=Py hR (i:=j) (j:=M - 1 - k) (by omega) (by omega)
   omega
  have q2:∀ x∈L.take t,∀ y∈R.drop u,x.due≤y.due:=fun x hx y hy=>by
   obtain⟨i,i1,i2,rfl⟩:=Alq hx
   obtain⟨j,j1,j2,rfl⟩:=Alr hy
   have:=k3 (k - 1) (by omega) (by omega)
   rw[show M+(A.length+L.length) - 1 - (k - 1)=A.length+L.length+u from by omega,dR _ (by omega),show k - 1=A.length+(t - 1) from by omega,dL _ (by omega)] at this
   have e1:=Py hL (i:=i) (j:=t - 1) (by omega) (by omega)
   have e2:=Py hR (i:=u) (j:=j) (by omega) j2
   omega
  have hL':=hL
  rw[hLs] at hL'
  obtain⟨a1,a2,a3⟩:=Jz.1 hL'
  have hR':=hR
  rw[hRs] at hR'
  obtain⟨b1,b2,b3⟩:=Jz.1 hR'
  have hDe:D=A++(L.take t++(L.drop t++(R.take u++(R.drop u++Z)))):=by
   have e1:L++(R++Z)=L.take t++(L.drop t++(R++Z)):=by rw[←List.append_assoc (L.take t),List.take_append_drop]
   have e2:R++Z=R.take u++(R.drop u++Z):=by rw[←List.append_assoc (R.take u),List.take_append_drop]
   rw[←hD,e1,e2]
  have hiL1:∀ d∈L.take t,In9 d:=fun d hd=>hi d (List.mem_append.2 (.inl (List.mem_of_mem_take hd)))
  have hiL2:∀ d∈L.drop t,In9 d:=fun d hd=>hi d (List.mem_append.2 (.inl (List.mem_of_mem_drop hd)))
  have hiR1:∀ d∈R.take u,In9 d:=fun d hd=>hi d (List.mem_append.2 (.inr (List.mem_of_mem_take hd)))
  have hiR2:∀ d∈R.drop u,In9 d:=fun d hd=>hi d (List.mem_append.2 (.inr (List.mem_of_mem_drop hd)))
  have hsum:Stb (L++R) ((L.take t++R.take u)++(L.drop t++R.drop u)):=by
   rw[show L++R=(L.take t++L.drop t)++(R.take u++R.drop u) from by rw[List.take_append_drop,List.take_append_drop]]
   rw[app4,app4 (L.take t) (R.take u) (L.drop t) (R.drop u)]
   exact Stb.app (F8 _) (Stb.app (Ts q1) (F8 _))
  generalize L.take t=L1 at *
  generalize L.drop t=L2 at *
  generalize R.take u=R1 at *
  generalize R.drop u=R2 at *
  -- the two halves,each merged
  have pw:fl≥1:=by
   rcases fl with _ | f
   ·simp at hfl;omega
   ·omega
  obtain⟨f,rfl⟩:∃ f,fl=f+1:=⟨fl - 1,by omega⟩
  have hfl2:L.length+R.length≤2 * 2 ^ f:=by rw[Nat.pow_succ] at hfl;omega
  have tail1:∃ S1,K7 S1∧Stb (L1++R1) S1∧((decide ((A.length:Int)<(k:Int))&&decide ((k:Int)<(M:Int)))=true→Al (f+1) (A++(L1++(R1++(L2++(R2++Z))))) (A.length:Int) (k:Int) (M:Int)=some (A++(S1++(L2++(R2++Z)))))∧((decide ((A.length:Int)<(k:Int))&&decide ((k:Int)<(M:Int)))=false→S1=L1++R1):=by
   by_cases c:1≤L1.length∧1≤R1.length
   ·obtain⟨S1,e1,e2,e3⟩:=O7 f A L1 R1 (L2++(R2++Z)) c.1 c.2 (by omega) a1 b1 (fun d hd=>(List.mem_append.1 hd).elim (hiL1 d) (hiR1 d)) (by rw[List.length_append,List.length_append];omega)
    refine⟨S1,e1,e2,fun _=>?_,fun h=>?_⟩
    ·rw[show (k:Int)=((A.length+L1.length:Nat):Int) from by omega,show (M:Int)=((A.length+L1.length+R1.length:Nat):Int) from by omega]
     exact e3
    ·rw[Bool.and_eq_false_iff,decide_eq_false_iff_not,decide_eq_false_iff_not] at h
     omega
   ·refine⟨L1++R1,Jz.2 ⟨a1,b1,fun x hx y hy=>?_⟩,F8 _,fun h=>?_,fun _=>rfl⟩
    ·have:=List.length_pos_of_mem hx
     have:=List.length_pos_of_mem hy
     omega
    ·rw[Bool.and_eq_true,decide_eq_true_eq,decide_eq_true_eq] at h
     omega
  obtain⟨S1,s1,s2,s3,s4⟩:=tail1
  have hS1:S1.length=t+u:=by rw[←s2.1,List.length_append,l1,l3]
  have tail2:∃ S2,K7 S2∧Stb (L2++R2) S2∧((decide ((M:Int)<((A.length+L.length+u:Nat):Int))&&decide (((A.length+L.length+u:Nat):Int)<((A.length+L.length+R.length:Nat):Int)))=true→Al (f+1) (A++(S1++(L2++(R2++Z)))) (M:Int) ((A.length+L.length+u:Nat):Int) ((A.length+L.length+R.length:Nat):Int)=some (A++((S1++S2)++Z)))∧((decide ((M:Int)<((A.length+L.length+u:Nat):Int))&&decide (((A.length+L.length+u:Nat):Int)<((A.length+L.length+R.length:Nat):Int)))=false→S2=L2++R2):=by
   by_cases c:1≤L2.length∧1≤R2.length
   ·obtain⟨S2,e1,e2,e3⟩:=O7 f (A++S1) L2 R2 Z c.1 c.2 (by omega) a2 b2 (fun d hd=>(List.mem_append.1 hd).elim (hiL2 d) (hiR2 d)) (by rw[List.length_append];omega)
    refine⟨S2,e1,e2,fun _=>?_,fun h=>?_⟩
    ·rw[List.length_append] at e3
     rw[show (M:Int)=((A.length+S1.length:Nat):Int) from by omega,show ((A.length+L.length+u:Nat):Int)=((A.length+S1.length+L2.length:Nat):Int) from by omega,show ((A.length+L.length+R.length:Nat):Int)=((A.length+S1.length+L2.length+R2.length:Nat):Int) from by omega]
     rw[List.append_assoc] at e3
     rw[e3];simp
    ·rw[Bool.and_eq_false_iff,decide_eq_false_iff_not,decide_eq_false_iff_not] at h
     omega
   ·refine⟨L2++R2,Jz.2 ⟨a2,b2,fun x hx y hy=>?_⟩,F8 _,fun h=>?_,fun _=>rfl⟩
    ·have:=List.length_pos_of_mem hx
     have:=List.length_pos_of_mem hy
     omega
    ·rw[Bool.and_eq_true,decide_eq_true_eq,decide_eq_true_eq] at h
     omega
  obtain⟨S2,w1,w2,w3,w4⟩:=tail2
  refine⟨S1++S2,Jz.2 ⟨s1,w1,fun x hx y hy=>?_⟩,hsum.trans (Stb.app s2 w2),?_⟩
  ·rcases List.mem_append.1 (s2.mem.2 hx) with hx | hx <;> rcases List.mem_append.1 (w2.mem.2 hy) with hy | hy
   ·exact a3 x hx y hy
   ·exact q2 x hx y hy
   ·have:=q1 y hy x hx;omega
   ·exact b3 x hx y hy
  -- what the two ways come to
  have tl:∀ X,X=A++(L1++(R1++(L2++(R2++Z))))→(br (decide ((A.length:Int)<(k:Int))&&decide ((k:Int)<(M:Int))) (bd (Al (f+1) X (A.length:Int) (k:Int) (M:Int)) fun x177=>br (decide ((M:Int)<((A.length+L.length+u:Nat):Int))&&decide (((A.length+L.length+u:Nat):Int)<((A.length+L.length+R.length:Nat):Int))) (bd (Al (f+1) x177 (M:Int) ((A.length+L.length+u:Nat):Int) ((A.length+L.length+R.length:Nat):Int)) fun x183=>some x183) (some x177)) (br (decide ((M:Int)<((A.length+L.length+u:Nat):Int))&&decide (((A.length+L.length+u:Nat):Int)<((A.length+L.length+R.length:Nat):Int))) (bd (Al (f+1) X (M:Int) ((A.length+L.length+u:Nat):Int) ((A.length+L.length+R.length:Nat):Int)) fun x191=>some x191) (some X)))=some (A++((S1++S2)++Z)):=fun X hX=>by
   have hsecond:(br (decide ((M:Int)<((A.length+L.length+u:Nat):Int))&&decide (((A.length+L.length+u:Nat):Int)<((A.length+L.length+R.length:Nat):Int))) (bd (Al (f+1) (A++(S1++(L2++(R2++Z)))) (M:Int) ((A.length+L.length+u:Nat):Int) ((A.length+L.length+R.length:Nat):Int)) fun x183=>some x183) (some (A++(S1++(L2++(R2++Z))))))=some (A++((S1++S2)++Z)):=by
    cases hc:(decide ((M:Int)<((A.length+L.length+u:Nat):Int))&&decide (((A.length+L.length+u:Nat):Int)<((A.length+L.length+R.length:Nat):Int))) with
    | true=>rw[br_true,w3 hc,bd_ret]
    | false=>rw[br_false,w4 hc];simp
   cases hc:(decide ((A.length:Int)<(k:Int))&&decide ((k:Int)<(M:Int))) with
   | true=>rw[br_true,hX,s3 hc,bd_ret];exact hsecond
   | false =>
    rw[br_false,hX,show A++(L1++(R1++(L2++(R2++Z))))=A++(S1++(L2++(R2++Z))) from by rw[s4 hc,List.append_assoc]]
    exact hsecond
  by_cases c:1≤L2.length∧1≤R1.length
  ·rw[show (decide ((k:Int)<((A.length+L.length:Nat):Int))&&decide (((A.length+L.length:Nat):Int)<((A.length+L.length+u:Nat):Int)))=true from by rw[Bool.and_eq_true,decide_eq_true_eq,decide_eq_true_eq];omega,br_true]
   have rot:=Akg (A:=A++L1) (X:=L2) (Y:=R1) (Z:=R2++Z) c.1 c.2 (by rw[List.length_append,List.length_append];omega) (a:=(k:Int)) (m:=((A.length+L.length:Nat):Int)) (b:=((A.length+L.length+u:Nat):Int)) (by rw[List.length_append];omega) (by rw[List.length_append];omega) (by rw[List.length_append];omega)
   rw[List.append_assoc,List.append_assoc] at rot
   rw[hDe,rot,bd_ret]
   exact tl _ rfl
  ·rw[show (decide ((k:Int)<((A.length+L.length:Nat):Int))&&decide (((A.length+L.length:Nat):Int)<((A.length+L.length+u:Nat):Int)))=false from by rw[Bool.and_eq_false_iff,decide_eq_false_iff_not,decide_eq_false_iff_not];omega,br_false]
   refine tl D ?_
   rw[hDe]
   by_cases c3:L2=[]
   ·rw[c3];simp
   ·have:R1=[]:=by
     have:=List.length_pos_iff.2 c3
     exact List.eq_nil_of_length_eq_zero (by omega)
    rw[this];simp
inductive BS (bs:Nat):List Due→Prop
 | last (D:List Due):D.length≤bs→K7 D→BS bs D
 | cons (X Y:List Due):X.length=bs→K7 X→BS bs Y→BS bs (X++Y)
theorem BS.one {bs:Nat}{D:List Due} (h:BS bs D) (hl:D.length≤bs) (hb:1≤bs):K7 D:=by
 cases h with
 | last _ _ h=>exact h
 | cons X Y h1 h2 h3 =>
  rw[List.length_append] at hl
  obtain rfl:=List.eq_nil_of_length_eq_zero (show Y.length=0 by omega)
  rw[List.append_nil];exact h2
theorem BS.two {bs:Nat}{D:List Due} (h:BS bs D) (hl:bs<D.length):∃ X Y,D=X++Y∧X.length=bs∧K7 X∧BS bs Y:=by
 cases h with
 | last _ h _=>omega
 | cons X Y h1 h2 h3=>exact⟨X,Y,rfl,h1,h2,h3⟩
theorem Adk:∀ (s:Nat) (A Y:List Due),Y.length≤s→(∀ d∈Y,In9 d)→A.length+Y.length≤1000000 →
  ∃ D1 a1 b1 Y',lp (Bc ((A.length+Y.length:Nat):Int)) (A++Y,(A.length:Int),((A.length+20:Nat):Int))=some (.go (D1,a1,b1))∧A1 D1 a1 ((A.length+Y.length:Nat):Int)=some (A++Y')∧BS 20 Y'∧Stb Y Y'
 | s,A,Y,hs,hi,hl=>by
  by_cases c:20≤Y.length
  ·have hY:Y=Y.take 20++Y.drop 20:=(List.take_append_drop _ _).symm
   have l1:(Y.take 20).length=20:=by rw[List.length_take];omega
   have l2:(Y.drop 20).length=Y.length - 20:=List.length_drop
   have hi1:∀ d∈Y.take 20,In9 d:=fun d hd=>hi d (List.mem_of_mem_take hd)
   have hi2:∀ d∈Y.drop 20,In9 d:=fun d hd=>hi d (List.mem_of_mem_drop hd)
   generalize Y.take 20=X at *
   generalize Y.drop 20=W at *
   obtain⟨X',x1,x2,x3⟩:=Vj (A:=A) (S:=X) (Z:=W) hi1 (by omega) (by omega) (a:=(A.length:Int)) (b:=((A.length+20:Nat):Int)) rfl (by omega)
   have hX':X'.length=20:=by rw[←x2.1];exact l1
   cases s with
   | zero=>omega
   | succ s =>
    obtain⟨D1,a1,b1,W',e1,e2,e3,e4⟩:=Adk s (A++X') W (by omega) hi2 (by rw[List.length_append];omega)
    have hn:((A++X').length+W.length:Nat)=A.length+Y.length:=by rw[List.length_append];omega
    rw[hn] at e1 e2
    refine⟨D1,a1,b1,X'++W',?_,by rw[e2,List.append_assoc],BS.cons X' W' hX' x1 e3,by rw[hY];exact Stb.app x2 e4⟩
    refine Cr (g':=((A++X')++W,((A++X').length:Int),(((A++X').length+20:Nat):Int))) ?_ e1
    unfold Bc
    simp only
    rw[Bu (by omega),hY,x3,bd_ret,Aj (by omega) (by omega),List.append_assoc,List.length_append,hX']
    rfl
  ·have hbrk:Bc ((A.length+Y.length:Nat):Int) (A++Y,(A.length:Int),((A.length+20:Nat):Int))=some (.brk (A++Y,(A.length:Int),((A.length+20:Nat):Int))):=by
    unfold Bc
    exact Bt (by omega)
   by_cases c1:1≤Y.length
   ·obtain⟨Y',x1,x2,x3⟩:=Vj (A:=A) (S:=Y) (Z:=[]) hi c1 (by simp only[List.length_nil];omega) (a:=(A.length:Int)) (b:=((A.length+Y.length:Nat):Int)) rfl (by omega)
    rw[List.append_nil,List.append_nil] at x3
    exact⟨_,_,_,Y',C0 hbrk,x3,BS.last Y' (by rw[←x2.1];omega) x1,x2⟩
   ·obtain rfl:=List.eq_nil_of_length_eq_zero (show Y.length=0 by omega)
    exact⟨_,_,_,[],C0 hbrk,Adv (by simp only[List.length_nil];omega) (by omega) (by omega),BS.last [] (by simp) Aay,F8 _⟩
theorem An6:(2:Nat) ^ 63=9223372036854775808:=by decide
theorem Ajb {bs:Nat} (hb:1≤bs) (hb2:bs≤1000000):∀ (s:Nat) (A Y:List Due),Y.length≤s→BS bs Y→(∀ d∈Y,In9 d)→A.length+Y.length≤1000000 →
  ∃ D1 a1 b1 Y',lp (Bb ((A.length+Y.length:Nat):Int) (bs:Int)) (A++Y,(A.length:Int),((A.length+2 * bs:Nat):Int))=some (.go (D1,a1,b1))∧0≤a1∧a1≤1000000∧(br (decide (a1+(bs:Int)<((A.length+Y.length:Nat):Int))) (Al 64 D1 a1 (a1+(bs:Int)) ((A.length+Y.length:Nat):Int)) (some D1))=some (A++Y')∧BS (2 * bs) Y'∧Stb Y Y'
 | s,A,Y,hs,hY,hi,hl=>by
  by_cases c:2 * bs≤Y.length
  ·obtain⟨X1,Y1,rfl,h1,h2,h3⟩:=hY.two (by omega)
   rw[List.length_append] at hs hl c
   obtain⟨X2,W,rfl,k1,k2,k3⟩:∃ X2 W,Y1=X2++W∧X2.length=bs∧K7 X2∧BS bs W:=by
    by_cases e:bs<Y1.length
    ·exact h3.two e
    ·exact⟨Y1,[],by simp,by omega,h3.one (by omega) hb,BS.last [] (by simp) Aay⟩
   rw[List.length_append] at hs hl
   obtain⟨S,x1,x2,x3⟩:=O7 63 A X1 X2 W (by omega) (by omega) (by rw[An6];omega) h2 k2 (fun d hd=>hi d (by rcases List.mem_append.1 hd with h | h <;> simp[h])) (by omega)
   have hS:S.length=2 * bs:=by rw[←x2.1,List.length_append];omega
   cases s with
   | zero=>omega
   | succ s =>
    obtain⟨D1,a1,b1,W',e1,e2,e3,e4,e5,e6⟩:=Ajb hb hb2 s (A++S) W (by omega) k3 (fun d hd=>hi d (by simp[hd])) (by rw[List.length_append];omega)
    have hn:((A++S).length+W.length:Nat)=A.length+(X1++(X2++W)).length:=by rw[List.length_append,List.length_append,List.length_append];omega
    rw[hn] at e1 e4
    refine⟨D1,a1,b1,S++W',?_,e2,e3,by rw[e4,List.append_assoc],BS.cons S W' hS x1 e5,by rw[←List.append_assoc];exact Stb.app x2 e6⟩
    refine Cr (g':=((A++S)++W,((A++S).length:Int),(((A++S).length+2 * bs:Nat):Int))) ?_ e1
    unfold Bb
    simp only
    rw[Bu (by rw[List.length_append,List.length_append];omega),Aj (by omega) (by omega),show (A.length:Int)+(bs:Int)=((A.length+X1.length:Nat):Int) from by omega,show ((A.length+2 * bs:Nat):Int)=((A.length+X1.length+X2.length:Nat):Int) from by omega,x3,bd_ret,Aj (by omega) (by omega),Aj (by omega) (by omega)]
    rw[List.append_assoc,List.length_append,hS,show ((A.length+X1.length+X2.length:Nat):Int)=((A.length+2 * bs:Nat):Int) from by omega,show ((A.length+2 * bs:Nat):Int)+2 * (bs:Int)=((A.length+2 * bs+2 * bs:Nat):Int) from by omega]
  ·have hbrk:Bb ((A.length+Y.length:Nat):Int) (bs:Int) (A++Y,(A.length:Int),((A.length+2 * bs:Nat):Int))=some (.brk (A++Y,(A.length:Int),((A.length+2 * bs:Nat):Int))):=by
    unfold Bb
    exact Bt (by omega)
   by_cases c1:bs<Y.length
   ·obtain⟨X1,Y1,rfl,h1,h2,h3⟩:=hY.two c1
    rw[List.length_append] at c c1 hl
    obtain⟨S,x1,x2,x3⟩:=O7 63 A X1 Y1 [] (by omega) (by omega) (by rw[An6];omega) h2 (h3.one (by omega) hb) hi (by simp only[List.length_nil];omega)
    refine⟨_,_,_,S,C0 hbrk,by omega,by omega,?_,BS.last S (by rw[←x2.1,List.length_append];omega) x1,x2⟩
    rw[Bu (by rw[List.length_append];omega),show (A.length:Int)+(bs:Int)=((A.length+X1.length:Nat):Int) from by omega,List.length_append,←Nat.add_assoc]
    rw[List.append_nil,List.append_nil] at x3
    exact x3
   ·exact⟨_,_,_,Y,C0 hbrk,by omega,by omega,Bt (by omega),BS.last Y (by omega) (hY.one (by omega) hb),F8 _⟩
theorem Acz:∀ (s:Nat) (D:List Due) (bs:Nat),D.length≤bs+s→1≤bs→bs≤1000000→BS bs D→(∀ d∈D,In9 d)→D.length≤400000 →
  ∃ S b,lp (Bk (D.length:Int)) (D,(bs:Int))=some (.go (S,b))∧K7 S∧Stb D S
 | s,D,bs,hs,h1,h2,hD,hi,hl=>by
  by_cases c:bs<D.length
  ·obtain⟨D1,a1,b1,Y',e1,e2,e3,e4,e5,e6⟩:=Ajb h1 h2 D.length [] D (Nat.le_refl _) hD hi (by simp;omega)
   simp only[List.length_nil,Nat.zero_add,List.nil_append] at e1 e4
   cases s with
   | zero=>omega
   | succ s =>
    obtain⟨S,b,k1,k2,k3⟩:=Acz s Y' (2 * bs) (by rw[←e6.1];omega) (by omega) (by omega) e5 (fun d hd=>hi d (e6.mem.2 hd)) (by rw[←e6.1];exact hl)
    rw[←e6.1] at k1
    refine⟨S,b,?_,k2,e6.trans k3⟩
    refine Cr (g':=(Y',((2 * bs:Nat):Int))) ?_ k1
    unfold Bk
    simp only
    rw[Bu (by omega),Aj (by omega) (by omega),show lp (Bb (D.length:Int) (bs:Int)) (D,0,2 * (bs:Int))=_ from e1,bd_ret,Out.on_go]
    simp only
    rw[Aj (by omega) (by omega)]
    by_cases c2:a1+(bs:Int)<(D.length:Int)
    ·rw[Bu c2] at e4 ⊢
     rw[e4,bd_ret,Aj (by omega) (by omega),show (bs:Int) * 2=((2 * bs:Nat):Int) from by omega]
    ·rw[Bt c2] at e4 ⊢
     rw[Aj (by omega) (by omega),show (bs:Int) * 2=((2 * bs:Nat):Int) from by omega]
     cases e4;rfl
  ·refine⟨D,bs,C0 ?_,hD.one (by omega) h1,F8 _⟩
   unfold Bk
   exact Bt (by omega)
theorem Tw {D:List Due} (hi:∀ d∈D,In9 d) (hl:D.length≤400000):∃ S,A7 D=some S∧K7 S∧Stb D S:=by
 obtain⟨D1,a1,b1,Y',e1,e2,e3,e4⟩:=Adk D.length [] D (Nat.le_refl _) hi (by simp;omega)
 simp only[List.length_nil,Nat.zero_add,List.nil_append] at e1 e2
 obtain⟨S,b,k1,k2,k3⟩:=Acz D.length Y' 20 (by rw[←e4.1];omega) (by omega) (by omega) e3 (fun d hd=>hi d (e4.mem.2 hd)) (by rw[←e4.1];exact hl)
 rw[←e4.1] at k1
 refine⟨S,?_,k2,e4.trans k3⟩
 unfold A7 Cm
 rw[show lp (Bc (ln D)) (D,0,20)=_ from e1,bd_ret,Out.on_go]
 simp only
 rw[show A1 D1 a1 (ln D)=_ from e2,bd_ret,show lp (Bk (ln D)) (Y',20)=_ from k1,bd_ret,Out.on_go,bd_ret]
noncomputable def C5 (m_Target:Tgt) (m_Kernel_Pace m_Kernel_Stages:Int) (m_Kernel_Ops:List Opr) (m_regs:List Int) (m_memory:List (List Int)) (m_turns:Int) (m_pending:List Due) (o:Opr) (turn:Int):Option ((Int×Int)) :=
 ck (IX o.ar (ln m_memory)) <|
 bd (Ey (IntKind.u64.wrap (ln (ele m_memory o.ar)))) fun x6 =>
 ck (IR (x6 - 1)) <|
 bd (Ih o.sp o.pl turn (x6 - 1)) fun x11 =>
 ck (IX x11 (ln (ele m_memory o.ar))) <|
 some (o.ar,x11)
noncomputable def D6 (a:Int) (m_Target:Tgt) (m_Kernel_Pace m_Kernel_Stages:Int) (m_Kernel_Ops:List Opr) (m_regs:List Int) (m_memory:List (List Int)) (m_turns:Int) (m_pending:List Due) (o:Opr) (turn:Int):Option (List (List Int)) :=
 bd (C5 m_Target m_Kernel_Pace m_Kernel_Stages m_Kernel_Ops m_regs m_memory m_turns m_pending o turn) fun x1 =>
 some (updG m_memory x1.1 x1.2 a)
noncomputable def B6 (m_Target:Tgt) (m_Kernel_Pace m_Kernel_Stages:Int) (m_Kernel_Ops:List Opr) (m_memory:List (List Int)) (m_turns pace slot:Int) (x7:List Int×List Due):((List Due)×(List (Opr×Int×Int))×Int)→Option (Stp ((List Due)×(List (Opr×Int×Int))×Int) (Empty)):=fun (own0v13_1,v11_1,x34_1) =>
 br (decide (x34_1<(ln m_Kernel_Ops))) (
 ck (IX x34_1 (ln m_Kernel_Ops)) <|
 ck (IR (pace - (ele m_Kernel_Ops x34_1).stage)) <|
 br ((((ele m_Kernel_Ops x34_1).slot != slot) || (decide ((pace - (ele m_Kernel_Ops x34_1).stage)<0))) || (decide ((pace - (ele m_Kernel_Ops x34_1).stage)≥m_turns))) (
 ck (IR (x34_1+1)) <|
 some (.next (own0v13_1,v11_1,(x34_1+1)))) (
 bd (B4 m_Target m_Kernel_Pace m_Kernel_Stages m_turns ((ele m_Kernel_Ops x34_1).a) pace) fun x32 =>
 ck (IX x32 (ln x7.1)) <|
 bd (B4 m_Target m_Kernel_Pace m_Kernel_Stages m_turns ((ele m_Kernel_Ops x34_1).b) pace) fun x39 =>
 ck (IX x39 (ln x7.1)) <|
 br ((ele m_Kernel_Ops x34_1).op==1) (
 bd (Dg ((ele m_Kernel_Ops x34_1).op)) fun x49 =>
 ck (IX x49 3) <|
 ck (IR (((pace * m_Kernel_Pace)+slot)+(Bi m_Target.w0 m_Target.w1 m_Target.w2 x49))) <|
 bd (B4 m_Target m_Kernel_Pace m_Kernel_Stages m_turns ((ele m_Kernel_Ops x34_1).dest) pace) fun x56 =>
 ck (AL (own0v13_1++[(Due.mk (((pace * m_Kernel_Pace)+slot)+(Bi m_Target.w0 m_Target.w1 m_Target.w2 x49)) x56 ((ele m_Kernel_Ops x34_1).n))]).length 24) <|
 ck (IR (x34_1+1)) <|
 some (.next ((own0v13_1++[(Due.mk (((pace * m_Kernel_Pace)+slot)+(Bi m_Target.w0 m_Target.w1 m_Target.w2 x49)) x56 ((ele m_Kernel_Ops x34_1).n))]),v11_1,(x34_1+1)))) (
 br ((ele m_Kernel_Ops x34_1).op==2) (
 bd (Dg ((ele m_Kernel_Ops x34_1).op)) fun x69 =>
 ck (IX x69 3) <|
 ck (IR (((pace * m_Kernel_Pace)+slot)+(Bi m_Target.w0 m_Target.w1 m_Target.w2 x69))) <|
 bd (B4 m_Target m_Kernel_Pace m_Kernel_Stages m_turns ((ele m_Kernel_Ops x34_1).dest) pace) fun x76 =>
 ck (AL (own0v13_1++[(Due.mk (((pace * m_Kernel_Pace)+slot)+(Bi m_Target.w0 m_Target.w1 m_Target.w2 x69)) x76 (pace - (ele m_Kernel_Ops x34_1).stage))]).length 24) <|
 ck (IR (x34_1+1)) <|
 some (.next ((own0v13_1++[(Due.mk (((pace * m_Kernel_Pace)+slot)+(Bi m_Target.w0 m_Target.w1 m_Target.w2 x69)) x76 (pace - (ele m_Kernel_Ops x34_1).stage))]),v11_1,(x34_1+1)))) (
 br ((ele m_Kernel_Ops x34_1).op==3) (
 bd (C5 m_Target m_Kernel_Pace m_Kernel_Stages m_Kernel_Ops x7.1 m_memory m_turns own0v13_1 (ele m_Kernel_Ops x34_1) (pace - (ele m_Kernel_Ops x34_1).stage)) fun x89 =>
 bd (Dg ((ele m_Kernel_Ops x34_1).op)) fun x93 =>
 ck (IX x93 3) <|
 ck (IR (((pace * m_Kernel_Pace)+slot)+(Bi m_Target.w0 m_Target.w1 m_Target.w2 x93))) <|
 bd (B4 m_Target m_Kernel_Pace m_Kernel_Stages m_turns ((ele m_Kernel_Ops x34_1).dest) pace) fun x100 =>
 ck (AL (own0v13_1++[(Due.mk (((pace * m_Kernel_Pace)+slot)+(Bi m_Target.w0 m_Target.w1 m_Target.w2 x93)) x100 (ele (ele m_memory x89.1) x89.2))]).length 24) <|
 ck (IR (x34_1+1)) <|
 some (.next ((own0v13_1++[(Due.mk (((pace * m_Kernel_Pace)+slot)+(Bi m_Target.w0 m_Target.w1 m_Target.w2 x93)) x100 (ele (ele m_memory x89.1) x89.2))]),v11_1,(x34_1+1)))) (
 br ((ele m_Kernel_Ops x34_1).op==4) (
 ck (AL (v11_1++[((ele m_Kernel_Ops x34_1),(pace - (ele m_Kernel_Ops x34_1).stage),(ele x7.1 x32))]).length 8) <|
 bd (Dg ((ele m_Kernel_Ops x34_1).op)) fun x124 =>
 ck (IX x124 3) <|
 ck (IR (((pace * m_Kernel_Pace)+slot)+(Bi m_Target.w0 m_Target.w1 m_Target.w2 x124))) <|
 bd (B4 m_Target m_Kernel_Pace m_Kernel_Stages m_turns ((ele m_Kernel_Ops x34_1).dest) pace) fun x131 =>
 ck (AL (own0v13_1++[(Due.mk (((pace * m_Kernel_Pace)+slot)+(Bi m_Target.w0 m_Target.w1 m_Target.w2 x124)) x131 (ele x7.1 x32))]).length 24) <|
 ck (IR (x34_1+1)) <|
 some (.next ((own0v13_1++[(Due.mk (((pace * m_Kernel_Pace)+slot)+(Bi m_Target.w0 m_Target.w1 m_Target.w2 x124)) x131 (ele x7.1 x32))]),(v11_1++[((ele m_Kernel_Ops x34_1),(pace - (ele m_Kernel_Ops x34_1).stage),(ele x7.1 x32))]),(x34_1+1)))) (
 ck (IR ((ele m_Kernel_Ops x34_1).op - 10)) <|
 bd (N9 ((ele m_Kernel_Ops x34_1).op - 10) (ele x7.1 x32) (ele x7.1 x39)) fun x144 =>
 bd (Dg ((ele m_Kernel_Ops x34_1).op)) fun x147 =>
 ck (IX x147 3) <|
 ck (IR (((pace * m_Kernel_Pace)+slot)+(Bi m_Target.w0 m_Target.w1 m_Target.w2 x147))) <|
 bd (B4 m_Target m_Kernel_Pace m_Kernel_Stages m_turns ((ele m_Kernel_Ops x34_1).dest) pace) fun x154 =>
 ck (AL (own0v13_1++[(Due.mk (((pace * m_Kernel_Pace)+slot)+(Bi m_Target.w0 m_Target.w1 m_Target.w2 x147)) x154 x144)]).length 24) <|
 ck (IR (x34_1+1)) <|
 some (.next ((own0v13_1++[(Due.mk (((pace * m_Kernel_Pace)+slot)+(Bi m_Target.w0 m_Target.w1 m_Target.w2 x147)) x154 x144)]),v11_1,(x34_1+1))))))))) (
 some (.brk (own0v13_1,v11_1,x34_1)))
noncomputable def Cw (m_Target:Tgt) (m_Kernel_Pace m_Kernel_Stages:Int) (m_Kernel_Ops:List Opr) (m_turns:Int) (x7:List Int×List Due) (own0v13_1:List Due) (v11_1:List (Opr×Int×Int)):((List (List Int))×Int)→Option (Stp ((List (List Int))×Int) (Empty)):=fun (own0v11_2,x140_2) =>
 br (decide (x140_2<(ln v11_1))) (
 ck (IX x140_2 (ln v11_1)) <|
 bd (D6 ((ele v11_1 x140_2).2.2) m_Target m_Kernel_Pace m_Kernel_Stages m_Kernel_Ops x7.1 own0v11_2 m_turns own0v13_1 ((ele v11_1 x140_2).1) ((ele v11_1 x140_2).2.1)) fun x29 =>
 ck (IR (x140_2+1)) <|
 some (.next (x29,(x140_2+1)))) (
 some (.brk (own0v11_2,x140_2)))
noncomputable def Dz (m_Target:Tgt) (m_Kernel_Pace m_Kernel_Stages:Int) (m_Kernel_Ops:List Opr) (m_regs:List Int) (m_memory:List (List Int)) (m_turns:Int) (m_pending:List Due) (pace slot:Int):Option (List Int×List (List Int)×List Due) :=
 ck (IR (pace * m_Kernel_Pace)) <|
 ck (IR ((pace * m_Kernel_Pace)+slot)) <|
 bd (Cq m_Target m_Kernel_Pace m_Kernel_Stages m_Kernel_Ops m_regs m_memory m_turns m_pending ((pace * m_Kernel_Pace)+slot)) fun x7 =>
 bd (lp (B6 m_Target m_Kernel_Pace m_Kernel_Stages m_Kernel_Ops m_memory m_turns pace slot x7) (x7.2,([]:List (Opr×Int×Int)),0)) fun o12=>o12.on (fun (own0v13_1,v11_1,x34_1) =>
 bd (lp (Cw m_Target m_Kernel_Pace m_Kernel_Stages m_Kernel_Ops m_turns x7 own0v13_1 v11_1) (m_memory,0)) fun o17=>o17.on (fun (own0v11_2,x140_2) =>
 some (x7.1,own0v11_2,own0v13_1)) (fun r=>r.elim)) (fun r=>r.elim)
def T9 (r:List Int) (d:Due):List Int:=upd r d.reg d.v
theorem Tj:∀ (q:List Due) (r:List Int),(q.foldl T9 r).length=r.length
 | [],r=>rfl
 | d::q,r=>by rw[List.foldl_cons,Tj q];unfold T9;rw[Ck]
theorem Ac0 {xs:List Int}{i x v:Int} (h:v∈upd xs i x):v=x∨v∈xs:=by
 unfold upd at h
 rcases List.mem_or_eq_of_mem_set h with h | h
 ·exact .inr h
 ·exact .inl h
theorem Acu:∀ (q:List Due) (r:List Int),(∀ d∈q,InR d.v)→(∀ v∈r,InR v)→∀ v∈q.foldl T9 r,InR v
 | [],r,_,h=>h
 | d::q,r,hd,h=>Acu q _ (fun e he=>hd e (List.mem_cons_of_mem _ he)) fun v hv=>by
  rcases Ac0 hv with rfl | hv
  ·exact hd d (List.mem_cons_self ..)
  ·exact h v hv
theorem V6 {T:Int}{l:List Due} (h:∀ d∈l,d.due≠T):atT T l=[]:=List.filter_eq_nil_iff.2 fun d hd=>by simpa using h d hd
theorem Abg {T:Int}{l:List Due}{d:Due} (h:d∈atT T l):d∈l∧d.due=T:=by
 have:=List.mem_filter.1 h
 exact⟨this.1,by simpa using this.2⟩
theorem Uo {c:Int}:∀ {S:List Due},K7 S→(∀ d∈S,c≤d.due)→∃ Z,S=atT c S++Z∧K7 Z∧∀ d∈Z,c+1≤d.due
 | [],_,_=>⟨[],rfl,List.Pairwise.nil,fun _ h=>by cases h⟩
 | x::S,hs,hc=>by
  obtain⟨h1,h2⟩:=List.pairwise_cons.1 hs
  by_cases e:x.due=c
  ·obtain⟨Z,a,b,d⟩:=Uo h2 fun d hd=>hc d (List.mem_cons_of_mem _ hd)
   refine⟨Z,?_,b,d⟩
   rw[show atT c (x::S)=x::atT c S from by unfold atT;rw[List.filter_cons_of_pos (by simpa using e)],List.cons_append,←a]
  ·have hx:=hc x (List.mem_cons_self ..)
   refine⟨x::S,?_,hs,fun d hd=>?_⟩
   ·rw[V6 (T:=c) fun d hd=>?_,List.nil_append]
    rcases List.mem_cons.1 hd with rfl | hd
    ·exact e
    ·have:=h1 d hd;omega
   ·rcases List.mem_cons.1 hd with rfl | hd
    ·omega
    ·have:=h1 d hd;omega
def G4 (c:Int) (q:List Due):List Due:=q.filter fun d=>decide (d.due≠c)
theorem Akx (c:Int) (q:List Due):q.length=(atT c q).length+(G4 c q).length:=by
 unfold atT G4
 induction q with
 | nil=>rfl
 | cons x q ih =>
  by_cases e:x.due=c
  ·rw[List.filter_cons_of_pos (by simpa using e),List.filter_cons_of_neg (by simpa using e)];simp only[List.length_cons];omega
  ·rw[List.filter_cons_of_neg (by simpa using e),List.filter_cons_of_pos (by simpa using e)];simp only[List.length_cons];omega
theorem Amr (c T:Int) (q:List Due):atT T (G4 c q)=if T=c then [] else atT T q:=by
 split
 ·rename_i h;subst h;exact V6 fun d hd=>by have:=(List.mem_filter.1 hd).2;simpa using this
 ·rename_i h
  unfold atT G4
  rw[List.filter_filter]
  refine List.filter_congr fun d _=>?_
  by_cases e:d.due=T
  ·simp[e,h]
  ·simp[e]
theorem Aco {c:Int}{D S Z:List Due} (hs:Stb D S) (e:S=atT c S++Z) (hz:∀ d∈Z,c+1≤d.due):Stb Z (G4 c D):=by
 have h1:=Akx c D
 have h2:S.length=(atT c S).length+Z.length:=by rw[←List.length_append,←e]
 have h3:=hs.2 c
 refine⟨by rw[←h3] at h2;have:=hs.1;omega,fun T=>?_⟩
 rw[Amr]
 split
 ·rename_i h;subst h;exact V6 fun d hd=>by have:=hz d hd;omega
 ·rename_i h
  have e':atT T S=atT T Z:=by
   rw[show atT T S=atT T (atT c S++Z) from congrArg _ e,Q2,show atT T (atT c S)=[] from V6 fun d hd=>by have:=(Abg hd).2;omega,List.nil_append]
  rw[hs.2 T,e']
theorem Aho {c:Int}{A Z:List Due}{r:List Int} (hA:∀ d∈A,d.due≤c∧0≤d.reg∧d.reg<r.length) (hZ:∀ d∈Z,c<d.due) (hl:(A++Z).length≤1000000):lp (C2 c (A++Z)) (r,0)=some (.go (A.foldl T9 r,(A.length:Int))):=by
 rw[List.length_append] at hl
 have X:=Ew (f:=C2 c (A++Z)) (ρ:=Empty) (fun i=>((A.take i).foldl T9 r,(i:Int))) A.length (fun i hi=>by
  have he:ele (A++Z) (i:Int)=ele A (i:Int):=by rw[Cs,Cs,List.getD_eq_getElem?_getD,List.getD_eq_getElem?_getD,List.getElem?_append_left hi]
  have hd:=hA _ (Cv hi)
  have hlen:=Tj (A.take i) r
  unfold C2
  simp only
  rw[he,Fb (fun _=>⟨by omega,by unfold ln;rw[List.length_append];omega⟩),decide_eq_true (show (i:Int)<ln (A++Z) by unfold ln;rw[List.length_append];omega),decide_eq_true hd.1,Bool.and_self,br_true,
   Av (by omega) (by unfold ln;rw[List.length_append];omega),Av (by omega) (by unfold ln;rw[List.length_append];omega),Av (by omega) (by unfold ln;omega),Aj (by omega) (by omega),Eu hi,List.foldl_append]
  rfl) (by
  unfold C2
  simp only
  rw[Fb (fun h=>⟨by omega,of_decide_eq_true h⟩)]
  cases Z with
  | nil=>rw[List.append_nil,decide_eq_false (show ¬(A.length:Int)<ln A by unfold ln;omega),Bool.false_and,br_false]
  | cons z Z =>
   have:=hZ z (List.mem_cons_self ..)
   rw[Mf rfl,decide_eq_false (show ¬z.due≤c by omega),Bool.and_false,br_false])
 rw[List.take_length] at X
 exact X
theorem Ajl {t:Tgt}{p s:Int}{ops:List Opr}{M:List (List Int)}{N c:Int}{D S A Z:List Due}{r:List Int} (hS:A7 D=some S) (e:S=A++Z) (hA:∀ d∈A,d.due≤c∧0≤d.reg∧d.reg<r.length) (hZ:∀ d∈Z,c<d.due) (hl:S.length≤1000000) :
  Cq t p s ops r M N D c=some (A.foldl T9 r,Z):=by
 unfold Cq
 rw[hS,bd_ret,e,Aho hA hZ (by rw[←e];exact hl),bd_ret,Out.on_go]
 simp only
 rw[Wg (by omega) (by unfold ln;rw[List.length_append];omega) (by omega)]
 unfold sub ln
 rw[Int.toNat_natCast,List.drop_left,List.take_of_length_le (by rw[List.length_append];omega)]
def Rk (N pa sl:Int) (o:Opr):Bool:=!(((o.slot != sl) || (decide (pa - o.stage<0))) || (decide (pa - o.stage≥N)))
def rgO (t:Tgt) (r:List Int) (x pa:Int):Int:=ele r ((x+pa) % t.regs)
def ixO (logs:List Int) (pa:Int) (o:Opr):Int:=idx o.sp o.pl (pa - o.stage) (ele logs o.ar)
def Aih (t:Tgt) (logs r:List Int) (M:List (List Int)) (pa:Int) (o:Opr):Int :=
 if o.op=1 then o.n else if o.op=2 then pa - o.stage else if o.op=3 then ele (ele M o.ar) (ixO logs pa o) else if o.op=4 then rgO t r o.a pa else opV (o.op - 10) (rgO t r o.a pa) (rgO t r o.b pa)
def Agt (t:Tgt) (logs r:List Int) (M:List (List Int)) (now pa:Int) (o:Opr):Due:=⟨now+Cn t o.op,(o.dest+pa) % t.regs,Aih t logs r M pa o⟩
def Alp (t:Tgt) (logs r:List Int) (pa:Int) (W:List (List Int)) (o:Opr):List (List Int):=updG W o.ar (ixO logs pa o) (rgO t r o.a pa)
def stO (t:Tgt) (logs r:List Int) (pa:Int) (W:List (List Int)) (o:Opr):List (List Int):=if o.op=4 then Alp t logs r pa W o else W
abbrev MemG (logs:List Int) (M:List (List Int)):Prop:=MemOk ⟨logs,[],[]⟩ M
theorem MemG.to {logs:List Int}{M:List (List Int)} (h:MemG logs M) (o:Opr):MemOk (lpO logs o) M:=⟨h.len,h.row,h.rng⟩
structure RegsG (t:Tgt) (r:List Int):Prop where
 len:(r.length:Int)=t.regs
 rng:∀ v∈r,InR v
theorem Aa0 {t:Tgt}{k:Krn}{o:Opr}{logs:List Int} (h:Oz t k o logs):o.op=1∨o.op=2∨(o.op=3∧Ha logs.length (Eh o))∨(o.op=4∧Ha logs.length (Eh o))∨(11≤o.op∧o.op≤18):=by
 have q3:=(h.2.2.stm 1 (show 1<2 by omega)).2.2
 have e1:((lpO logs o).body.getD 1 Stm.zero)=Eh o:=rfl
 rw[e1] at q3
 have e2:(Eh o).op=o.op:=rfl
 have e3:(lpO logs o).logs=logs:=rfl
 rw[e2,e3] at q3
 rcases q3 with h | h | h | h | h
 ·exact .inl h.1
 ·exact .inr (.inl h.1)
 ·exact .inr (.inr (.inl ⟨h.1,h.2.2.1⟩))
 ·exact .inr (.inr (.inr (.inl ⟨h.1,h.2.2.1⟩)))
 ·exact .inr (.inr (.inr (.inr ⟨h.1,h.2.1⟩)))
section
variable {t : Tgt} {k : Krn} {logs : List Int} {o : Opr}
theorem Ad9 {r:List Int} (hr:RegsG t r) (x pa:Int):InR (rgO t r x pa):=Q0 hr.rng _
theorem Aat (h:Oz t k o logs) {M:List (List Int)} (hM:MemG logs M) (hw:Ha logs.length (Eh o)) (u:Int):IX o.ar (ln M)∧IX o.ar (ln logs)∧IX (idx o.sp o.pl u (ele logs o.ar)) (ln (ele M o.ar))∧∃ L:Nat,L≤5∧ele logs o.ar=L∧(ele M o.ar).length=2 ^ L:=by
 obtain⟨w1,w2,w3⟩:=O3 (l:=lpO logs o) (s:=Eh o) h.2.2 (hM.to o) hw u
 have h2:(Eh o).ar=o.ar:=rfl
 have h3:(lpO logs o).logs=logs:=rfl
 rw[h2] at w1 w2
 rw[h3] at w2
 have e:((o.ar.toNat:Nat):Int)=o.ar:=by have:=w1.1;omega
 have hl:=h.2.2.log o.ar.toNat (by have:=w2.2;unfold ln at this;show o.ar.toNat<logs.length;have:=w2.1;omega)
 rw[show (lpO logs o).logs.getD o.ar.toNat 0=ele logs ((o.ar.toNat:Nat):Int) from rfl,e] at hl
 have hr:=hM.row o.ar.toNat (by have:=w1.2;unfold ln at this;have:=w1.1;omega)
 rw[show M.getD o.ar.toNat []=ele M ((o.ar.toNat:Nat):Int) from rfl,show (⟨logs,[],[]⟩:Lp).logs.getD o.ar.toNat 0=ele logs ((o.ar.toNat:Nat):Int) from rfl,e] at hr
 obtain⟨L,hL⟩:=Int.eq_ofNat_of_zero_le hl.1
 rw[hL,Int.toNat_natCast] at hr
 have hp:=Ait (show L≤5 by omega)
 exact⟨w1,w2,w3,L,by omega,hL,by omega⟩
theorem Ai0 (h:Oz t k o logs) {M:List (List Int)} (hM:MemG logs M) (hw:Ha logs.length (Eh o)) (u:Int) (t':Tgt) (p s:Int) (ops:List Opr) (r:List Int) (N:Int) (q:List Due) :
  C5 t' p s ops r M N q o u=some (o.ar,idx o.sp o.pl u (ele logs o.ar)):=by
 obtain⟨w1,w2,w3,L,h5,hL,hl⟩:=Aat h hM hw u
 unfold C5
 rw[Ao w1,show ln (ele M o.ar)=((2 ^ L:Nat):Int) from by unfold ln;rw[hl],Aol h5,bd_ret,Aj (by omega) (by omega),show (L:Int)+1 - 1=L from by omega,Qn,bd_ret,←hL,Ao (by rw[show ((2 ^ L:Nat):Int)=ln (ele M o.ar) from by unfold ln;rw[hl]];exact w3)]
theorem Al0 (h:Oz t k o logs) (hn:InR o.n) {r:List Int}{M:List (List Int)} (hr:RegsG t r) (hM:MemG logs M) {pa:Int} (hp:0≤pa∧pa≤300000) (hs:o.stage≤1001∧0≤o.stage):InR (Aih t logs r M pa o):=by
 unfold Aih
 split
 ·exact hn
 split
 ·constructor <;> omega
 split
 ·exact Qh hM.rng _ _
 split
 ·exact Ad9 hr _ _
 ·exact Afv _ _ _
theorem Ape {r:List Int} (hr:RegsG t r) {pa:Int}{W:List (List Int)} (hW:MemG logs W):MemG logs (Alp t logs r pa W o):=hW.updG _ _ _ (Ad9 hr _ _)
theorem st_ok {r:List Int} (hr:RegsG t r) {pa:Int}{W:List (List Int)} (hW:MemG logs W):MemG logs (stO t logs r pa W o):=by
 unfold stO;split
 ·exact Ape hr hW
 ·exact hW
theorem Aa5 {r:List Int} (hr:RegsG t r) {pa:Int}:∀ (L:List Opr) {W:List (List Int)},MemG logs W→MemG logs (L.foldl (stO t logs r pa) W)
 | [],_,h=>h
 | o::L,_,h=>Aa5 hr L (st_ok hr h)
theorem Aac {r:List Int}{pa:Int} (f:Opr→Bool):∀ (L:List Opr) (W:List (List Int)),(L.filter f).foldl (stO t logs r pa) W=(L.filter fun o=>f o&&o.op==4).foldl (Alp t logs r pa) W
 | [],_=>rfl
 | o::L,W=>by
  by_cases h:f o=true
  ·by_cases h4:o.op=4
   ·rw[List.filter_cons_of_pos h,List.filter_cons_of_pos (by simp[h,h4]),List.foldl_cons,List.foldl_cons,Aac f L]
    unfold stO;rw[if_pos h4]
   ·rw[List.filter_cons_of_pos h,List.filter_cons_of_neg (by simp[h4]),List.foldl_cons,Aac f L]
    unfold stO;rw[if_neg h4]
  ·rw[List.filter_cons_of_neg h,List.filter_cons_of_neg (by simp[h]),Aac f L]
end
theorem Yz {n b:Nat} (h:n≤10000000) (hb:b≤32):AL n b:=⟨by rw[F4];omega,Nat.le_trans (Nat.mul_le_mul h hb) (by omega)⟩
section
variable {t : Tgt} {k : Krn} {logs : List Int}
theorem Aeb (hm:KMayP t k logs) {i:Nat} (hi:i<k.ops.length):Oz t k (ele k.ops (i:Int)) logs∧0≤(ele k.ops (i:Int)).stage∧(ele k.ops (i:Int)).stage≤1001∧1≤t.regs∧t.regs≤128:=by
 have h:=hm.one i hi
 have hs:=hm.stages
 have hr:=Dj.1 hm.tgt
 obtain⟨⟨_,_,h3,h4,_⟩,_⟩:=h
 refine⟨hm.one i hi,h3,by omega,?_,?_⟩ <;> omega
theorem rop_s (hm:KMayP t k logs) {N now pa sl:Int} (hnow:0≤now∧now≤300000) (htd:Int.tdiv now k.pace=pa) (htm:Int.tmod now k.pace=sl) (hpa:0≤pa∧pa≤300000) {regs0 r:List Int} (hr:RegsG t r) {M W:List (List Int)} (hM:MemG logs M) (hW:MemG logs W) {Q:List Due} (hQ:Q.length≤1000000) {i:Nat} (hi:i<k.ops.length) :
  Fq t k regs0 N (logs,true) M now r (Q,W,(i:Int))=some (.next (if Rk N pa sl (ele k.ops (i:Int))=true then Q++[Agt t logs r M now pa (ele k.ops (i:Int))] else Q,if Rk N pa sl (ele k.ops (i:Int))=true then stO t logs r pa W (ele k.ops (i:Int)) else W,(i:Int)+1)):=by
 obtain⟨ho,hs0,hs1,hR0,hR1⟩:=Aeb hm hi
 have hkn:=hm.n
 have hp:=hm.pace
 have hrl:=hr.len
 unfold Fq
 simp only
 rw[Bu (by unfold ln;omega),Av (by omega) (by unfold ln;omega),htd,htm]
 generalize ele k.ops (i:Int)=o at *
 obtain⟨_,⟨d1,d2,d3,d4,d5,d6,d7,d8⟩,_⟩:=id ho
 rw[Aj (by omega) (by omega),Ao (show k.pace≠0 by omega)]
 by_cases hact:Rk N pa sl o=true
 ·have hc:(((o.slot != sl) || (decide (pa - o.stage<0))) || (decide (pa - o.stage≥N)))=false:=by unfold Rk at hact;simpa using hact
  have hst:0≤pa - o.stage:=by
   rw[Bool.or_eq_false_iff,Bool.or_eq_false_iff,decide_eq_false_iff_not] at hc;omega
  have tma:∀ a:Int,0≤a→Int.tmod (a+pa) t.regs=(a+pa) % t.regs:=fun a ha=>Int.tmod_eq_emod_of_nonneg (by omega)
  have hra:∀ a:Int,0≤(a+pa) % t.regs∧(a+pa) % t.regs<t.regs:=fun a=>⟨Int.emod_nonneg _ (by omega),Int.emod_lt_of_pos _ (by omega)⟩
  have ha':=hra o.a
  have hb':=hra o.b
  have hcl:0≤Fl o.op∧Fl o.op<3:=Fp _
  have hwt:=Mz t o.op
  have hwv:Bi t.w0 t.w1 t.w2 (Fl o.op)=Cn t o.op:=by unfold Cn;rw[if_pos hm.tgt]
  have hal:∀ d:Due,AL (Q++[d]).length 24:=fun d=>Yz (by rw[List.length_append,List.length_singleton];omega) (by omega)
  rw[hc,br_false,if_pos hact,if_pos hact,Aj (by omega) (by omega),Ao (show t.regs≠0 by omega),tma _ d3,Av ha'.1 (by unfold ln;omega),Aj (by omega) (by omega),Ao (show t.regs≠0 by omega),tma _ d5,Av hb'.1 (by unfold ln;omega),tma _ d1]
  unfold Agt Aih stO Alp ixO rgO
  rcases Aa0 ho with h | h | ⟨h,hw⟩ | ⟨h,hw⟩ | h
  ·rw[show (o.op==1)=true from by simpa using h,br_true,Ek,bd_ret,Av hcl.1 hcl.2,hwv,Aj (by omega) (by omega),Aj (by omega) (by omega),Ao (show t.regs≠0 by omega),Ao (hal _),Aj (by omega) (by omega),if_pos h,if_neg (by omega)]
  ·rw[show (o.op==1)=false from by rw[h];rfl,br_false,show (o.op==2)=true from by simpa using h,br_true,Ek,bd_ret,Av hcl.1 hcl.2,hwv,Aj (by omega) (by omega),Aj (by omega) (by omega),Ao (show t.regs≠0 by omega),Ao (hal _),Aj (by omega) (by omega),if_neg (by omega),if_pos h,if_neg (by omega)]
  ·obtain⟨w1,w2,w3,_⟩:=Aat ho hM hw (pa - o.stage)
   rw[show (o.op==1)=false from by rw[h];rfl,br_false,show (o.op==2)=false from by rw[h];rfl,br_false,show (o.op==3)=true from by simpa using h,br_true,Ao w1,Ao w2,Nl,bd_ret,Ao w3,Ek,bd_ret,Av hcl.1 hcl.2,hwv,Aj (by omega) (by omega),Aj (by omega) (by omega),Ao (show t.regs≠0 by omega),Ao (hal _),Aj (by omega) (by omega),if_neg (by omega),if_neg (by omega),if_pos h,if_neg (by omega)]
  ·obtain⟨w1,w2,w3,_⟩:=Aat ho hW hw (pa - o.stage)
   rw[show (o.op==1)=false from by rw[h];rfl,br_false,show (o.op==2)=false from by rw[h];rfl,br_false,show (o.op==3)=false from by rw[h];rfl,br_false,show (o.op==4)=true from by simpa using h,br_true,Ao w1,Ao w2,Nl,bd_ret,Ao w3,Ek,bd_ret,Av hcl.1 hcl.2,hwv,Aj (by omega) (by omega),Aj (by omega) (by omega),Ao (show t.regs≠0 by omega),Ao (hal _),Aj (by omega) (by omega),if_neg (by omega),if_neg (by omega),if_neg (by omega),if_pos h,if_pos h]
  ·have hn:∀ j:Int,j≤4→(o.op==j)=false:=fun j hj=>by rw[beq_eq_false_iff_ne];omega
   rw[hn 1 (by omega),br_false,hn 2 (by omega),br_false,hn 3 (by omega),br_false,hn 4 (by omega),br_false,Aj (by omega) (by omega),Acr _ _ _ (Q0 hr.rng ((o.a+pa) % t.regs)) (Q0 hr.rng ((o.b+pa) % t.regs)),bd_ret,Ek,bd_ret,Av hcl.1 hcl.2,hwv,Aj (by omega) (by omega),Aj (by omega) (by omega),Ao (show t.regs≠0 by omega),Ao (hal _),Aj (by omega) (by omega),if_neg (by omega),if_neg (by omega),if_neg (by omega),if_neg (by omega),if_neg (by omega)]
 ·have hc:(((o.slot != sl) || (decide (pa - o.stage<0))) || (decide (pa - o.stage≥N)))=true:=by unfold Rk at hact;rwa [Bool.not_eq_true,Bool.not_eq_false'] at hact
  rw[hc,br_true,Aj (by omega) (by omega),if_neg hact,if_neg hact]
def stV (t:Tgt) (r:List Int) (pa:Int) (o:Opr):Opr×Int×Int:=(o,pa - o.stage,rgO t r o.a pa)
theorem Ais (hm:KMayP t k logs) (p s N x:Int) {pa:Int} (hpa:0≤pa∧pa≤300000) (hx:0≤x∧x<t.regs):B4 t p s N x pa=some ((x+pa) % t.regs):=by
 have hr:=Dj.1 hm.tgt
 unfold B4
 rw[Aj (by omega) (by omega),Ao (by omega),Int.tmod_eq_emod_of_nonneg (by omega)]
theorem Ak1 (hm:KMayP t k logs) {N now pa sl:Int} (hnow:0≤now∧now≤300000) (hps:pa * k.pace+sl=now) (hpa:0≤pa∧pa≤300000) {r:List Int} (hr:RegsG t r) {M:List (List Int)} (hM:MemG logs M) {Q Z:List Due} (hQ:Q.length≤1000000) {V:List (Opr×Int×Int)} (hV:V.length≤1000) {i:Nat} (hi:i<k.ops.length) :
  B6 t k.pace k.stages k.ops M N pa sl (r,Z) (Q,V,(i:Int))=some (.next (if Rk N pa sl (ele k.ops (i:Int))=true then Q++[Agt t logs r M now pa (ele k.ops (i:Int))] else Q,if (Rk N pa sl (ele k.ops (i:Int))&&(ele k.ops (i:Int)).op==4)=true then V++[stV t r pa (ele k.ops (i:Int))] else V,(i:Int)+1)):=by
 obtain⟨ho,hs0,hs1,hR0,hR1⟩:=Aeb hm hi
 have hkn:=hm.n
 have hp:=hm.pace
 have hrl:=hr.len
 unfold B6
 simp only
 rw[Bu (by unfold ln;omega),Av (by omega) (by unfold ln;omega),hps]
 generalize ele k.ops (i:Int)=o at *
 obtain⟨_,⟨d1,d2,d3,d4,d5,d6,d7,d8⟩,_⟩:=id ho
 rw[Aj (by omega) (by omega)]
 by_cases hact:Rk N pa sl o=true
 ·have hc:(((o.slot != sl) || (decide (pa - o.stage<0))) || (decide (pa - o.stage≥N)))=false:=by unfold Rk at hact;simpa using hact
  have hst:0≤pa - o.stage:=by
   rw[Bool.or_eq_false_iff,Bool.or_eq_false_iff,decide_eq_false_iff_not] at hc;omega
  have hra:∀ a:Int,0≤(a+pa) % t.regs∧(a+pa) % t.regs<t.regs:=fun a=>⟨Int.emod_nonneg _ (by omega),Int.emod_lt_of_pos _ (by omega)⟩
  have ha':=hra o.a
  have hb':=hra o.b
  have hcl:0≤Fl o.op∧Fl o.op<3:=Fp _
  have hwt:=Mz t o.op
  have hwv:Bi t.w0 t.w1 t.w2 (Fl o.op)=Cn t o.op:=by unfold Cn;rw[if_pos hm.tgt]
  have hal:∀ d:Due,AL (Q++[d]).length 24:=fun d=>Yz (by rw[List.length_append,List.length_singleton];omega) (by omega)
  rw[hc,br_false,hact,Bool.true_and,if_pos rfl,Ais hm _ _ _ _ hpa ⟨d3,d4⟩,bd_ret,Av ha'.1 (by unfold ln;omega),Ais hm _ _ _ _ hpa ⟨d5,d6⟩,bd_ret,Av hb'.1 (by unfold ln;omega)]
  simp only[Kf,bd_some',Ais hm _ _ _ _ hpa ⟨d1,d2⟩,hwv]
  unfold Agt Aih stV ixO rgO
  rcases Aa0 ho with h | h | ⟨h,hw⟩ | ⟨h,hw⟩ | h
  ·rw[show (o.op==1)=true from by simpa using h,br_true,Av hcl.1 hcl.2,Aj (by omega) (by omega),Ao (hal _),Aj (by omega) (by omega),if_pos h,if_neg (by simp;omega)]
  ·rw[show (o.op==1)=false from by rw[h];rfl,br_false,show (o.op==2)=true from by simpa using h,br_true,Av hcl.1 hcl.2,Aj (by omega) (by omega),Ao (hal _),Aj (by omega) (by omega),if_neg (by omega),if_pos h,if_neg (by simp;omega)]
  ·rw[show (o.op==1)=false from by rw[h];rfl,br_false,show (o.op==2)=false from by rw[h];rfl,br_false,show (o.op==3)=true from by simpa using h,br_true,Ai0 ho hM hw,bd_ret,Av hcl.1 hcl.2,Aj (by omega) (by omega),Ao (hal _),Aj (by omega) (by omega),if_neg (by omega),if_neg (by omega),if_pos h,if_neg (by simp;omega)]
  ·rw[show (o.op==1)=false from by rw[h];rfl,br_false,show (o.op==2)=false from by rw[h];rfl,br_false,show (o.op==3)=false from by rw[h];rfl,br_false,show (o.op==4)=true from by simpa using h,br_true,Ao (Yz (by rw[List.length_append,List.length_singleton];omega) (by omega)),Av hcl.1 hcl.2,Aj (by omega) (by omega),Ao (hal _),Aj (by omega) (by omega),if_neg (by omega),if_neg (by omega),if_neg (by omega),if_pos h,if_pos rfl]
  ·have hn:∀ j:Int,j≤4→(o.op==j)=false:=fun j hj=>by rw[beq_eq_false_iff_ne];omega
   rw[hn 1 (by omega),br_false,hn 2 (by omega),br_false,hn 3 (by omega),br_false,hn 4 (by omega),br_false,Aj (by omega) (by omega),Acy,bd_ret,Av hcl.1 hcl.2,Aj (by omega) (by omega),Ao (hal _),Aj (by omega) (by omega),if_neg (by omega),if_neg (by omega),if_neg (by omega),if_neg (by omega),if_neg (by simp)]
 ·have hc:(((o.slot != sl) || (decide (pa - o.stage<0))) || (decide (pa - o.stage≥N)))=true:=by unfold Rk at hact;rwa [Bool.not_eq_true,Bool.not_eq_false'] at hact
  rw[hc,br_true,Aj (by omega) (by omega),if_neg hact,if_neg (by simp[hact])]
def N2 (t:Tgt) (k:Krn) (logs r:List Int) (M:List (List Int)) (N now pa sl:Int) (n:Nat):List Due:=((k.ops.take n).filter (Rk N pa sl)).map (Agt t logs r M now pa)
def Ua (t:Tgt) (k:Krn) (logs r:List Int) (N pa sl:Int) (n:Nat) (M:List (List Int)):List (List Int):=((k.ops.take n).filter (Rk N pa sl)).foldl (stO t logs r pa) M
theorem W2 (t:Tgt) (k:Krn) (logs r:List Int) (M:List (List Int)) (N now pa sl:Int) (n:Nat):(N2 t k logs r M N now pa sl n).length≤n:=by
 unfold N2
 rw[List.length_map]
 exact Nat.le_trans (List.length_filter_le _ _) (by rw[List.length_take];omega)
theorem Zh {r:List Int}{M:List (List Int)}{N now pa sl:Int}{i:Nat} (hi:i<k.ops.length):N2 t k logs r M N now pa sl (i+1)=if Rk N pa sl (ele k.ops (i:Int))=true then N2 t k logs r M N now pa sl i++[Agt t logs r M now pa (ele k.ops (i:Int))] else N2 t k logs r M N now pa sl i:=by
 unfold N2
 rw[Eu hi,List.filter_append,List.map_append]
 split
 ·rename_i h;rw[List.filter_cons_of_pos h];rfl
 ·rename_i h;rw[List.filter_cons_of_neg h];simp
theorem Ahj {r:List Int}{N pa sl:Int}{M:List (List Int)}{i:Nat} (hi:i<k.ops.length):Ua t k logs r N pa sl (i+1) M=if Rk N pa sl (ele k.ops (i:Int))=true then stO t logs r pa (Ua t k logs r N pa sl i M) (ele k.ops (i:Int)) else Ua t k logs r N pa sl i M:=by
 unfold Ua
 rw[Eu hi,List.filter_append,List.foldl_append]
 split
 ·rename_i h;rw[List.filter_cons_of_pos h];rfl
 ·rename_i h;rw[List.filter_cons_of_neg h];simp
theorem Ao7 (hm:KMayP t k logs) {N now pa sl:Int} (hnow:0≤now∧now≤300000) (htd:Int.tdiv now k.pace=pa) (htm:Int.tmod now k.pace=sl) (hpa:0≤pa∧pa≤300000) {regs0 r:List Int} (hr:RegsG t r) {M:List (List Int)} (hM:MemG logs M) {Q:List Due} (hQ:Q.length≤100000) :
  lp (Fq t k regs0 N (logs,true) M now r) (Q,M,0)=some (.go (Q++N2 t k logs r M N now pa sl k.ops.length,Ua t k logs r N pa sl k.ops.length M,(k.ops.length:Int))):=by
 have hkn:=hm.n
 have X:=Ew (f:=Fq t k regs0 N (logs,true) M now r) (ρ:=Empty) (fun i=>(Q++N2 t k logs r M N now pa sl i,Ua t k logs r N pa sl i M,(i:Int))) k.ops.length (fun i hi=>by
  have hl:=W2 t k logs r M N now pa sl i
  rw[rop_s hm hnow htd htm hpa hr hM (show MemG logs (Ua t k logs r N pa sl i M) from Aa5 hr _ hM) (by rw[List.length_append];omega) hi,Zh hi,Ahj hi]
  congr 3
  split
  ·rw[List.append_assoc]
  ·rfl) (by unfold Fq;exact Bt (by unfold ln;omega))
 rw[show N2 t k logs r M N now pa sl 0=[] from rfl,List.append_nil] at X
 exact X
def Rg (t:Tgt) (k:Krn) (r:List Int) (N pa sl:Int) (n:Nat):List (Opr×Int×Int):=((k.ops.take n).filter fun o=>Rk N pa sl o&&o.op==4).map (stV t r pa)
theorem Acf (t:Tgt) (k:Krn) (r:List Int) (N pa sl:Int) (n:Nat):(Rg t k r N pa sl n).length≤n:=by
 unfold Rg
 rw[List.length_map]
 exact Nat.le_trans (List.length_filter_le _ _) (by rw[List.length_take];omega)
theorem Apk (hm:KMayP t k logs) {N now pa sl:Int} (hnow:0≤now∧now≤300000) (hps:pa * k.pace+sl=now) (hpa:0≤pa∧pa≤300000) {r:List Int} (hr:RegsG t r) {M:List (List Int)} (hM:MemG logs M) {Q Z:List Due} (hQ:Q.length≤100000) :
  lp (B6 t k.pace k.stages k.ops M N pa sl (r,Z)) (Q,[],0)=some (.go (Q++N2 t k logs r M N now pa sl k.ops.length,Rg t k r N pa sl k.ops.length,(k.ops.length:Int))):=by
 have hkn:=hm.n
 have X:=Ew (f:=B6 t k.pace k.stages k.ops M N pa sl (r,Z)) (ρ:=Empty) (fun i=>(Q++N2 t k logs r M N now pa sl i,Rg t k r N pa sl i,(i:Int))) k.ops.length (fun i hi=>by
  have hl:=W2 t k logs r M N now pa sl i
  have hl2:=Acf t k r N pa sl i
  rw[Ak1 hm hnow hps hpa hr hM (by rw[List.length_append];omega) (by omega) hi,Zh hi]
  have hv:Rg t k r N pa sl (i+1)=if (Rk N pa sl (ele k.ops (i:Int))&&(ele k.ops (i:Int)).op==4)=true then Rg t k r N pa sl i++[stV t r pa (ele k.ops (i:Int))] else Rg t k r N pa sl i:=by
   unfold Rg
   rw[Eu hi,List.filter_append,List.map_append]
   split
   ·rename_i h;rw[List.filter_cons,if_pos h];rfl
   ·rename_i h;rw[List.filter_cons,if_neg h];simp
  rw[hv]
  congr 3
  split
  ·rw[List.append_assoc]
  ·rfl) (by unfold B6;exact Bt (by unfold ln;omega))
 rw[show N2 t k logs r M N now pa sl 0=[] from rfl,List.append_nil] at X
 exact X
end
section
variable {t : Tgt} {k : Krn} {logs : List Int}
def putV (logs:List Int) (W:List (List Int)) (v:Opr×Int×Int):List (List Int):=updG W v.1.ar (idx v.1.sp v.1.pl v.2.1 (ele logs v.1.ar)) v.2.2
theorem Zn:∀ (L:List (Opr×Int×Int)) {W:List (List Int)},(∀ v∈L,InR v.2.2)→MemG logs W→MemG logs (L.foldl (putV logs) W)
 | [],_,_,h=>h
 | v::L,_,hv,h=>Zn L (fun u hu=>hv u (List.mem_cons_of_mem _ hu)) (h.updG _ _ _ (hv v (List.mem_cons_self ..)))
theorem Alz (hm:KMayP t k logs) {r:List Int} (hr:RegsG t r) {N pa sl:Int}{M:List (List Int)} (hM:MemG logs M) {Q Z:List Due} :
  lp (Cw t k.pace k.stages k.ops N (r,Z) Q (Rg t k r N pa sl k.ops.length)) (M,0)=some (.go (Ua t k logs r N pa sl k.ops.length M,((Rg t k r N pa sl k.ops.length).length:Int))):=by
 have hkn:=hm.n
 have hvl:=Acf t k r N pa sl k.ops.length
 have hmem:∀ v∈Rg t k r N pa sl k.ops.length,∃ i:Nat,i<k.ops.length∧v=stV t r pa (ele k.ops (i:Int))∧(ele k.ops (i:Int)).op=4:=fun v hv=>by
  unfold Rg at hv
  obtain⟨o,ho,rfl⟩:=List.mem_map.1 hv
  obtain⟨h1,h2⟩:=List.mem_filter.1 ho
  obtain⟨i,hi,e⟩:=Ni (List.mem_of_mem_take h1)
  exact⟨i,hi,by rw[e],by rw[e];simp at h2;exact h2.2⟩
 have hrg:∀ v∈Rg t k r N pa sl k.ops.length,InR v.2.2:=fun v hv=>by
  obtain⟨i,_,rfl,_⟩:=hmem v hv
  exact Ad9 hr _ _
 have e:Ua t k logs r N pa sl k.ops.length M=(Rg t k r N pa sl k.ops.length).foldl (putV logs) M:=by
  unfold Ua Rg
  rw[Aac,List.foldl_map];rfl
 rw[e]
 generalize hV:Rg t k r N pa sl k.ops.length=V at *
 have X:=Ew (f:=Cw t k.pace k.stages k.ops N (r,Z) Q V) (ρ:=Empty) (fun j=>((V.take j).foldl (putV logs) M,(j:Int))) V.length (fun j hj=>by
  obtain⟨i,hi,ev,h4⟩:=hmem _ (Cv hj)
  have ho:=hm.one i hi
  have hw:Ha logs.length (Eh (ele k.ops (i:Int))):=by rcases Aa0 ho with h | h | h | h | h <;> first | exact h.2 | omega
  unfold Cw D6
  simp only
  rw[Bu (by unfold ln;omega),Av (by omega) (by unfold ln;omega),Eu hj,List.foldl_append]
  rw[ev]
  show (bd (bd (C5 t k.pace k.stages k.ops r _ N Q (ele k.ops (i:Int)) (pa - (ele k.ops (i:Int)).stage)) _) _)=_
  rw[Ai0 ho (Zn _ (fun v hv=>hrg v (List.mem_of_mem_take hv)) hM) hw,bd_ret,bd_ret,Aj (by omega) (by omega)]
  rfl) (by unfold Cw;exact Bt (by unfold ln;omega))
 rw[List.take_length] at X
 exact X
theorem cyc_k (hm:KMayP t k logs) {N now pa sl:Int} (hnow:0≤now∧now≤300000) (hps:pa * k.pace+sl=now) (hpa:0≤pa∧pa≤300000) (hsl:0≤sl∧sl≤200) {r r1:List Int}{M:List (List Int)}{D Z:List Due}
  (hland:Cq t k.pace k.stages k.ops r M N D now=some (r1,Z)) (hr:RegsG t r1) (hM:MemG logs M) (hZ:Z.length≤100000) :
  Dz t k.pace k.stages k.ops r M N D pa sl=some (r1,Ua t k logs r1 N pa sl k.ops.length M,Z++N2 t k logs r1 M N now pa sl k.ops.length):=by
 unfold Dz
 rw[Aj (by omega) (by omega),hps,Aj (by omega) (by omega),hland,bd_ret]
 show (bd (lp (B6 t k.pace k.stages k.ops M N pa sl (r1,Z)) (Z,[],0)) _)=_
 rw[Apk hm hnow hps hpa hr hM hZ,bd_ret,Out.on_go]
 simp only
 rw[Alz hm hr hM,bd_ret,Out.on_go]
theorem Amd {c:Int}{q:List Due}{r:List Int} (hq:∀ d∈q,0≤d.reg∧d.reg<r.length) (hl:q.length≤1000000):lp (Hd q c) (r,[],0)=some (.go ((atT c q).foldl T9 r,G4 c q,(q.length:Int))):=by
 have X:=Ew (f:=Hd q c) (ρ:=Empty) (fun i=>((atT c (q.take i)).foldl T9 r,G4 c (q.take i),(i:Int))) q.length (fun i hi=>by
  have hlen:=Tj (atT c (q.take i)) r
  have hfl:(G4 c (q.take i)).length≤i:=Nat.le_trans (List.length_filter_le _ _) (by rw[List.length_take];omega)
  have hd:=hq _ (Cv hi)
  unfold Hd
  simp only
  rw[Bu (by unfold ln;omega),Av (by omega) (by unfold ln;omega),Eu hi,Q2,List.foldl_append,show G4 c (q.take i++[ele q (i:Int)])=G4 c (q.take i)++G4 c [ele q (i:Int)] from List.filter_append ..]
  by_cases e:(ele q (i:Int)).due=c
  ·rw[show ((ele q (i:Int)).due==c)=true from by simpa using e,br_true,Av (by omega) (by unfold ln;omega),Av (by omega) (by unfold ln;omega),Av (by omega) (by unfold ln;omega),Aj (by omega) (by omega)]
   rw[show G4 c [ele q (i:Int)]=[] from by unfold G4;simp[e],List.append_nil,show atT c [ele q (i:Int)]=[ele q (i:Int)] from by unfold atT;simp[e]]
   rfl
  ·rw[show ((ele q (i:Int)).due==c)=false from by simpa using e,br_false,Av (by omega) (by unfold ln;omega),Ao (Yz (by rw[List.length_append,List.length_singleton];omega) (by omega)),Aj (by omega) (by omega)]
   rw[show G4 c [ele q (i:Int)]=[ele q (i:Int)] from by unfold G4;simp[e],show atT c [ele q (i:Int)]=[] from by unfold atT;simp[e]]
   rfl) (by unfold Hd;exact Bt (by unfold ln;omega))
 rw[List.take_length] at X
 exact X
abbrev MSt:=List Due×List Int×List (List Int)
def r1S (c:Int) (x:MSt):List Int:=(atT c x.1).foldl T9 x.2.1
def Ab6 (t:Tgt) (k:Krn) (logs:List Int) (N c:Int) (x:MSt):MSt :=
 (G4 c x.1++N2 t k logs (r1S c x) x.2.2 N c (c / k.pace) (c % k.pace) k.ops.length,r1S c x,Ua t k logs (r1S c x) N (c / k.pace) (c % k.pace) k.ops.length x.2.2)
def Afi (c:Int) (x:MSt):MSt:=(G4 c x.1,r1S c x,x.2.2)
def stS (t:Tgt) (k:Krn) (logs:List Int) (N:Int) (x0:MSt) (last:Nat):Nat→MSt
 | 0=>x0
 | c+1=>if c<last then Ab6 t k logs N c (stS t k logs N x0 last c) else Afi c (stS t k logs N x0 last c)
structure InvS (t:Tgt) (logs:List Int) (c:Int) (x:MSt):Prop where
 regs:RegsG t x.2.1
 mem:MemG logs x.2.2
 due:∀ d∈x.1,c≤d.due∧d.due≤c+5∧0≤d.reg∧d.reg<t.regs∧InR d.v
 cnt:∀ j:Nat,j≤6→x.1.countP (fun d=>decide (c+j≤d.due))≤16 * (6 - j)
theorem InvS.len {c:Int}{x:MSt} (h:InvS t logs c x):x.1.length≤96:=by
 have:=h.cnt 0 (by omega)
 rw[List.countP_eq_length.2 fun d hd=>by have:=(h.due d hd).1;simpa using this] at this
 omega
theorem InvS.r1 {c:Int}{x:MSt} (h:InvS t logs c x):RegsG t (r1S c x):=by
 refine⟨by unfold r1S;rw[Tj];exact h.regs.len,Acu _ _ (fun d hd=>(h.due d (Abg hd).1).2.2.2.2) h.regs.rng⟩
theorem InvS.tail {c:Int}{x:MSt} (h:InvS t logs c x):InvS t logs (c+1) (Afi c x):=by
 have hleft:∀ d∈G4 c x.1,d∈x.1∧d.due≠c:=fun d hd=>by
  have:=List.mem_filter.1 hd
  exact⟨this.1,by simpa using this.2⟩
 refine⟨h.r1,h.mem,fun d hd=>?_,fun j hj=>?_⟩
 ·obtain⟨h1,h2⟩:=hleft d hd
  obtain⟨q1,q2,q3,q4,q5⟩:=h.due d h1
  exact⟨by omega,by omega,q3,q4,q5⟩
 ·show (G4 c x.1).countP _≤_
  by_cases h6:j=6
  ·subst h6
   rw[List.countP_eq_zero.2 fun d hd=>by have:=h.due d (hleft d hd).1;simp;omega]
   omega
  ·have h1:=h.cnt (j+1) (by omega)
   refine Nat.le_trans (Nat.le_trans ((List.filter_sublist ..).countP_le) ?_) (Nat.le_trans h1 (by omega))
   refine List.countP_mono_left fun d _ hd=>?_
   simp at hd ⊢;omega
theorem Amj (hm:KMayP t k logs) (hn:∀ i:Nat,i<k.ops.length→InR (ele k.ops (i:Int)).n) {r:List Int}{M:List (List Int)} (hr:RegsG t r) (hM:MemG logs M) {N now pa sl:Int} (hpa:0≤pa∧pa≤300000) :
  ∀ d∈N2 t k logs r M N now pa sl k.ops.length,now+1≤d.due∧d.due≤now+6∧0≤d.reg∧d.reg<t.regs∧InR d.v:=fun d hd=>by
 unfold N2 at hd
 obtain⟨o,ho,rfl⟩:=List.mem_map.1 hd
 obtain⟨i,hi,e⟩:=Ni (List.mem_of_mem_take (List.mem_filter.1 ho).1)
 obtain⟨h1,h2,h3,h4,h5⟩:=Aeb hm hi
 have hin:=hn i hi
 rw[e] at h1 h2 h3 hin
 have hw:1≤Cn t o.op∧Cn t o.op≤6:=by
  have ht:=Dj.1 hm.tgt
  have hc:=Fp o.op
  unfold Cn;rw[if_pos hm.tgt]
  unfold Bi
  split <;> (try split) <;> omega
 refine⟨by show now+1≤now+_;omega,by show now+_≤now+6;omega,Int.emod_nonneg _ (by omega),Int.emod_lt_of_pos _ (by omega),Al0 h1 hin hr hM hpa ⟨h3,h2⟩⟩
theorem InvS.step (hm:KMayP t k logs) (hn:∀ i:Nat,i<k.ops.length→InR (ele k.ops (i:Int)).n) {N c:Int} (hc:0≤c∧c≤300000) {x:MSt} (h:InvS t logs c x):InvS t logs (c+1) (Ab6 t k logs N c x):=by
 have hp:=hm.pace
 have hkn:=hm.n
 have hpa0:=Int.ediv_nonneg (show 0≤c by omega) (show 0≤k.pace by omega)
 have hpa1:=Int.ediv_le_self (b:=k.pace) (show 0≤c by omega)
 have hnew:=Amj (N:=N) (now:=c) (sl:=c % k.pace) hm hn h.r1 h.mem (pa:=c / k.pace) ⟨hpa0,by omega⟩
 have htl:=h.tail
 refine⟨htl.regs,Aa5 h.r1 _ h.mem,fun d hd=>?_,fun j hj=>?_⟩
 ·rcases List.mem_append.1 hd with hd | hd
  ·exact htl.due d hd
  ·obtain⟨q1,q2,q3,q4,q5⟩:=hnew d hd
   exact⟨by omega,by omega,q3,q4,q5⟩
 ·show (G4 c x.1++N2 t k logs (r1S c x) x.2.2 N c (c / k.pace) (c % k.pace) k.ops.length).countP _≤_
  rw[List.countP_append]
  have hlen:=W2 t k logs (r1S c x) x.2.2 N c (c / k.pace) (c % k.pace) k.ops.length
  by_cases h6:j=6
  ·subst h6
   have h1:=htl.cnt 6 (by omega)
   rw[show (Afi c x).1=G4 c x.1 from rfl] at h1
   rw[List.countP_eq_zero (l:=N2 ..).2 fun d hd=>by have:=hnew d hd;simp;omega]
   omega
  ·have hleft:∀ d∈G4 c x.1,d∈x.1∧d.due≠c:=fun d hd=>by
    have:=List.mem_filter.1 hd
    exact⟨this.1,by simpa using this.2⟩
   have h1:=h.cnt (j+1) (by omega)
   have h2:(G4 c x.1).countP (fun d=>decide (c+1+(j:Int)≤d.due))≤16 * (6 - (j+1)):=by
    refine Nat.le_trans (Nat.le_trans ((List.filter_sublist ..).countP_le) ?_) h1
    refine List.countP_mono_left fun d _ hd=>?_
    simp at hd ⊢;omega
   have h3:=List.countP_le_length (p:=fun d:Due=>decide (c+1+(j:Int)≤d.due)) (l:=N2 t k logs (r1S c x) x.2.2 N c (c / k.pace) (c % k.pace) k.ops.length)
   omega
theorem Amu {c:Int} (hc:0≤c∧c≤300000) {x:MSt} (h:InvS t logs c x) {D:List Due} (hD:Stb D x.1) (p s:Int) (ops:List Opr) (M:List (List Int)) (N:Int) :
  ∃ Z,Cq t p s ops x.2.1 M N D c=some (r1S c x,Z)∧Stb Z (G4 c x.1):=by
 have hl:=h.len
 have hm:∀ d∈D,c≤d.due∧d.due≤c+5∧0≤d.reg∧d.reg<t.regs∧InR d.v:=fun d hd=>h.due d (hD.mem.1 hd)
 obtain⟨S,e1,e2,e3⟩:=Tw (D:=D) (fun d hd=>by have:=hm d hd;exact⟨by omega,by omega⟩) (by rw[hD.1];omega)
 obtain⟨Z,z1,z2,z3⟩:=Uo (c:=c) e2 fun d hd=>(hm d (e3.mem.2 hd)).1
 have hat:atT c S=atT c x.1:=by rw[←e3.2 c,hD.2 c]
 refine⟨Z,?_,?_⟩
 ·rw[Ajl (A:=atT c S) (Z:=Z) e1 z1 (fun d hd=>by
   obtain⟨q1,q2⟩:=Abg hd
   have:=hm d (e3.mem.2 q1)
   have:=h.regs.len
   omega) (fun d hd=>by have:=z3 d hd;omega) (by rw[←e3.1,hD.1];omega),hat]
  rfl
 ·exact(Aco (e3.symm.trans hD).symm z1 z3)
end
noncomputable def Gq (t:Tgt) (k_:Krn) (turns x63_9:Int):((List Due)×(List (List Int))×(List Int)×Int)→Option (Stp ((List Due)×(List (List Int))×(List Int)×Int) (Empty)):=fun (v33_10,r25_10,r20_10,x68_10) =>
 br (decide (x68_10<k_.pace)) (
 bd (Dz t k_.pace k_.stages k_.ops r20_10 r25_10 turns v33_10 x63_9 x68_10) fun x48 =>
 ck (IR (x68_10+1)) <|
 some (.next (x48.2.2,x48.2.1,x48.1,(x68_10+1)))) (
 some (.brk (v33_10,r25_10,r20_10,x68_10)))
noncomputable def Gr (t:Tgt) (k_:Krn) (turns:Int):((List Due)×(List (List Int))×(List Int)×Int)→Option (Stp ((List Due)×(List (List Int))×(List Int)×Int) (Empty)):=fun (v33_9,r25_9,r20_9,x63_9) =>
 br (decide (x63_9<((turns+k_.stages) - 1))) (
 bd (lp (Gq t k_ turns x63_9) (v33_9,r25_9,r20_9,0)) fun o41=>o41.on (fun (v33_10,r25_10,r20_10,x68_10) =>
 ck (IR (x63_9+1)) <|
 some (.next (v33_10,r25_10,r20_10,(x63_9+1)))) (fun r=>r.elim)) (
 some (.brk (v33_9,r25_9,r20_9,x63_9)))
noncomputable def I9 (t:Tgt) (k_:Krn) (regs:List Int) (memory:List (List Int)) (turns:Int):Option (List Int×List (List Int)×Int) :=
 bd (Hv memory) fun x3 =>
 bdG (!(!x3.2)) (Hh t k_ x3.1) fun x7 =>
 br (((!x3.2) || (!x7)) || ((ln regs) != t.regs)) (
 some ([],[],2)) (
 br ((decide (turns<0)) || (decide (turns>200))) (
 some ([],[],3)) (
 bd (Te regs) fun x16 =>
 bd (Li memory) fun x21 =>
 br (decide (turns>0)) (
 ck (IR (turns+k_.stages)) <|
 ck (IR ((turns+k_.stages) - 1)) <|
 bd (lp (Gr t k_ turns) ([],x21,x16,0)) fun o34=>o34.on (fun (v33_9,r25_9,r20_9,x63_9) =>
 bd (Cq t k_.pace k_.stages k_.ops r20_9 r25_9 turns v33_9 1099511627776) fun x39 =>
 some (x39.1,r25_9,0)) (fun r=>r.elim)) (
 some (x16,x21,0))))
end Go.Rd
end