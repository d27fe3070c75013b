/- Texts for the law, 5. -/
import Derived.Test.YtaimbkndebaaiacZLbuildRuns4
import Derived.Test.YtaimbkndebaaiacProg
import Derived.KernelRfl
set_option linter.unusedVariables false
set_option linter.unusedSimpArgs false
set_option maxRecDepth 8000
section
namespace Go.Rd
section
variable {t : Tgt} {k : Krn} {logs : List Int}
theorem Xn (hm:KMayP t k logs) {M:List (List Int)} (h:MemG logs M):M.length≤100∧∀ r∈M,r.length≤100000 :=
 (h.to (ele k.ops ((0:Nat):Int))).small (hm.one 0 (by have:=hm.n;omega)).2.2
theorem Wm {N:Int}{x0:MSt}{last c:Nat} (h:c<last):stS t k logs N x0 last (c+1)=Ab6 t k logs N c (stS t k logs N x0 last c):=by
 rw[stS,if_pos h]
theorem Ud {N:Int}{x0:MSt}{last c:Nat} (h:¬c<last):stS t k logs N x0 last (c+1)=Afi c (stS t k logs N x0 last c):=by
 rw[stS,if_neg h]
theorem R9 (hm:KMayP t k logs) (hn:∀ i:Nat,i<k.ops.length→InR (ele k.ops (i:Int)).n) {N:Int}{x0:MSt} (h0:InvS t logs 0 x0) {last:Nat}:∀ c:Nat,c≤300000→InvS t logs c (stS t k logs N x0 last c)
 | 0,_=>h0
 | c+1,hc=>by
  have ih:=R9 hm hn (N:=N) h0 (last:=last) c (by omega)
  by_cases h:c<last
  ·rw[Wm h];exact ih.step hm hn ⟨by omega,by omega⟩
  ·rw[Ud h];exact ih.tail
theorem lastK (hm:KMayP t k logs) {N:Nat} (hN:N≤200) (h1:1≤N):∃ P R:Nat,k.pace=P∧(N:Int)+k.stages - 1=R∧1≤P∧P≤200∧1≤R∧R≤1200∧R * P≤240000∧((N:Int)+k.stages - 1) * k.pace=(R * P:Nat):=by
 have hp:=hm.pace
 have hs:=hm.stages
 obtain⟨P,hP⟩:=Int.eq_ofNat_of_zero_le (show 0≤k.pace by omega)
 obtain⟨R,hR⟩:=Int.eq_ofNat_of_zero_le (show 0≤(N:Int)+k.stages - 1 by omega)
 have hb:R * P≤1200 * 200:=Nat.mul_le_mul (by omega) (by omega)
 exact⟨P,R,hP,hR,by omega,by omega,by omega,by omega,by omega,by rw[hP,hR];simp⟩
theorem Amb (hm:KMayP t k logs) (hn:∀ i:Nat,i<k.ops.length→InR (ele k.ops (i:Int)).n) {N:Nat} (hN:N≤200) (h1:1≤N) {x0:MSt} (h0:InvS t logs 0 x0) {regs0:List Int}{L:Nat} (hL:((N:Int)+k.stages - 1) * k.pace=L) (hLb:L≤240000) :
  lp (Fr t k regs0 N (logs,true)) (x0.1,x0.2.1,x0.2.2,0)=some (.go ((stS t k logs N x0 L (L+7)).1,(stS t k logs N x0 L (L+7)).2.1,(stS t k logs N x0 L (L+7)).2.2,((L+7:Nat):Int))):=by
 have hp:=hm.pace
 have X:=Ew (f:=Fr t k regs0 N (logs,true)) (ρ:=Empty) (fun c=>((stS t k logs N x0 L c).1,(stS t k logs N x0 L c).2.1,(stS t k logs N x0 L c).2.2,(c:Int))) (L+7) (fun c hc=>by
  have hI:=R9 hm hn (N:=N) h0 (last:=L) c (by omega)
  have hq:=hI.len
  have hrl:=hI.regs.len
  have hlen:(G4 c (stS t k logs N x0 L c).1).length≤96:=Nat.le_trans (List.length_filter_le _ _) hq
  unfold Fr
  simp only
  rw[hL,Aj (by omega) (by omega),Aj (by omega) (by omega),Bu (by omega),Amd (fun d hd=>by have:=hI.due d hd;omega) (by omega),bd_ret,Out.on_go]
  simp only
  by_cases h:c<L
  ·have hsm:=Xn hm hI.mem
   have hd:Int.tdiv (c:Int) k.pace=(c:Int) / k.pace:=Int.tdiv_eq_ediv_of_nonneg (by omega)
   have hd0:=Int.ediv_nonneg (show 0≤(c:Int) by omega) (show 0≤k.pace by omega)
   have hd1:=Int.ediv_le_self (b:=k.pace) (show 0≤(c:Int) by omega)
   rw[Bt (by omega),Ao (by omega),Aj (by omega) (by omega),V1 hsm.1 hsm.2,bd_ret]
   rw[Ao7 hm ⟨by omega,by omega⟩ hd (Int.tmod_eq_emod_of_nonneg (by omega)) ⟨hd0,by omega⟩ (show RegsG t ((atT (c:Int) (stS t k logs N x0 L c).1).foldl T9 (stS t k logs N x0 L c).2.1) from hI.r1) hI.mem (by omega),bd_ret,Out.on_go]
   simp only
   rw[Aj (by omega) (by omega),Wm h]
   rfl
  ·rw[Bu (by omega),Aj (by omega) (by omega),Ud h]
   rfl) (by
  unfold Fr
  simp only
  rw[hL,Aj (by omega) (by omega),Aj (by omega) (by omega)]
  exact Bt (by omega))
 exact X
structure KInv (t:Tgt) (k:Krn) (logs:List Int) (N:Int) (x0:MSt) (last c:Nat) (g:List Due×List (List Int)×List Int):Prop where
 due:Stb g.1 (stS t k logs N x0 last c).1
 mem:g.2.1=(stS t k logs N x0 last c).2.2
 regs:g.2.2=(stS t k logs N x0 last c).2.1
theorem Amx (hm:KMayP t k logs) (hn:∀ i:Nat,i<k.ops.length→InR (ele k.ops (i:Int)).n) {N:Nat}{x0:MSt} (h0:InvS t logs 0 x0) {P R pa:Nat} (hP:k.pace=P) (hP0:1≤P∧P≤200) (hR:R≤1200) (hpa:pa<R) (hLb:R * P≤240000) {g:List Due×List (List Int)×List Int} (hg:KInv t k logs N x0 (R * P) (pa * P) g) :
  ∃ g',lp (Gq t k N pa) (g.1,g.2.1,g.2.2,0)=some (.go (g'.1,g'.2.1,g'.2.2,(P:Int)))∧KInv t k logs N x0 (R * P) ((pa+1) * P) g':=by
 have hub:(pa+1) * P≤R * P:=Nat.mul_le_mul_right _ hpa
 rw[Nat.add_mul,Nat.one_mul] at hub
 have X:=S9 (f:=Gq t k N pa) (ρ:=Empty) (n:=P) (fun (g:List Due×List (List Int)×List Int) i=>(g.1,g.2.1,g.2.2,i)) (fun j g=>KInv t k logs N x0 (R * P) (pa * P+j) g) (fun j g hj hg=>by
  obtain⟨D,M,r⟩:=g
  obtain⟨a1,a2,a3⟩:=hg
  simp only at a1 a2 a3
  subst a2 a3
  have hI:=R9 hm hn (N:=N) h0 (last:=R * P) (pa * P+j) (by omega)
  have hd:((pa * P+j:Nat):Int) / k.pace=pa:=by rw[hP,←Int.natCast_ediv,Nat.mul_comm pa P,Nat.mul_add_div (by omega),Nat.div_eq_of_lt hj,Nat.add_zero]
  have hmd:((pa * P+j:Nat):Int) % k.pace=j:=by rw[hP,←Int.natCast_emod,Nat.mul_comm pa P,Nat.mul_add_mod,Nat.mod_eq_of_lt hj]
  obtain⟨Z,z1,z2⟩:=Amu ⟨by omega,by omega⟩ hI a1 k.pace k.stages k.ops (stS t k logs N x0 (R * P) (pa * P+j)).2.2 N
  have hq:=hI.len
  have hlen:(G4 ((pa * P+j:Nat):Int) (stS t k logs N x0 (R * P) (pa * P+j)).1).length≤96:=Nat.le_trans (List.length_filter_le _ _) hq
  refine⟨(Z++N2 t k logs (r1S ((pa * P+j:Nat):Int) (stS t k logs N x0 (R * P) (pa * P+j))) (stS t k logs N x0 (R * P) (pa * P+j)).2.2 N ((pa * P+j:Nat):Int) pa j k.ops.length,Ua t k logs (r1S ((pa * P+j:Nat):Int) (stS t k logs N x0 (R * P) (pa * P+j))) N pa j k.ops.length (stS t k logs N x0 (R * P) (pa * P+j)).2.2,r1S ((pa * P+j:Nat):Int) (stS t k logs N x0 (R * P) (pa * P+j))),?_,?_⟩
  ·unfold Gq
   simp only
   rw[Bu (by omega),cyc_k hm (now:=((pa * P+j:Nat):Int)) ⟨by omega,by omega⟩ (by rw[hP];simp) ⟨by omega,by omega⟩ ⟨by omega,by omega⟩ z1 hI.r1 hI.mem (by rw[z2.1];omega),bd_ret,Aj (by omega) (by omega)]
  ·have hlt:pa * P+j<R * P:=by omega
   refine⟨?_,?_,?_⟩
   ·show Stb _ (stS t k logs N x0 (R * P) (pa * P+j+1)).1
    rw[Wm hlt]
    unfold Ab6
    rw[hd,hmd]
    exact z2.app (F8 _)
   ·show _=(stS t k logs N x0 (R * P) (pa * P+j+1)).2.2
    rw[Wm hlt]
    unfold Ab6
    rw[hd,hmd]
   ·show _=(stS t k logs N x0 (R * P) (pa * P+j+1)).2.1
    rw[Wm hlt]
    rfl) (fun g=>by unfold Gq;exact Bt (by omega)) g hg
 obtain⟨g',e,h⟩:=X
 exact⟨g',e,by rw[Nat.add_mul,Nat.one_mul];exact h⟩
theorem Ack (hm:KMayP t k logs) (hn:∀ i:Nat,i<k.ops.length→InR (ele k.ops (i:Int)).n) {N:Int}{x0:MSt} (h0:InvS t logs 0 x0) {L:Nat} (hLb:L≤240000) {S:List Due} (hS:K7 S) (hS2:Stb S (stS t k logs N x0 L L).1) :
  ∀ m:Nat,m≤7→∃ S',K7 S'∧Stb S' (stS t k logs N x0 L (L+m)).1∧S.foldl T9 (stS t k logs N x0 L L).2.1=S'.foldl T9 (stS t k logs N x0 L (L+m)).2.1∧(stS t k logs N x0 L (L+m)).2.2=(stS t k logs N x0 L L).2.2∧∀ d∈(stS t k logs N x0 L (L+m)).1,d.due≤L+5
 | 0,_=>⟨S,hS,hS2,rfl,rfl,fun d hd=>(((R9 hm hn (N:=N) h0 (last:=L) L (by omega)).due d hd).2.1)⟩
 | m+1,hmm=>by
  obtain⟨S',s1,s2,s3,s4,s5⟩:=Ack hm hn h0 hLb hS hS2 m (by omega)
  have hI:=R9 hm hn (N:=N) h0 (last:=L) (L+m) (by omega)
  obtain⟨Z,z1,z2,z3⟩:=Uo (c:=((L+m:Nat):Int)) s1 fun d hd=>(hI.due d (s2.mem.1 hd)).1
  have hat:atT ((L+m:Nat):Int) S'=atT ((L+m:Nat):Int) (stS t k logs N x0 L (L+m)).1:=s2.2 _
  refine⟨Z,z2,?_,?_,?_,fun d hd=>?_⟩
  ·show Stb Z (stS t k logs N x0 L (L+m+1)).1
   rw[Ud (by omega)]
   exact Aco s2.symm z1 z3
  ·show _=Z.foldl T9 (stS t k logs N x0 L (L+m+1)).2.1
   rw[Ud (by omega),s3]
   conv=>lhs;rw[z1]
   rw[List.foldl_append,hat];rfl
  ·show (stS t k logs N x0 L (L+m+1)).2.2=_
   rw[Ud (by omega)];exact s4
  ·rw[show L+(m+1)=L+m+1 from rfl,Ud (by omega)] at hd
   exact s5 d (List.mem_filter.1 hd).1
theorem Ag9 (hm:KMayP t k logs) (hn:∀ i:Nat,i<k.ops.length→InR (ele k.ops (i:Int)).n) {N:Nat} (hN:N≤200) {r:List Int} (hr:RegsG t r) {M:List (List Int)} (hM:MemG logs M)
  (hlp:Hv M=some (logs,true)) (hlr:Rc M=some (logs,true)) (hmay:Hh t k logs=some true) :
  ∃ r' M',I9 t k r M N=some (r',M',0)∧Rb t k r M N=some (r',M')∧RegsG t r'∧MemG logs M'∧(N=0→r'=r∧M'=M)∧(1≤N→∀ L:Nat,((N:Int)+k.stages - 1) * k.pace=L→r'=(stS t k logs N ([],r,M) L (L+7)).2.1):=by
 have hsm:=Xn hm hM
 have hrl:=hr.len
 have hp:=hm.pace
 have hst:=hm.stages
 have hR:=Dj.1 hm.tgt
 have hrl2:r.length≤1000:=by omega
 unfold I9 Rb
 rw[hlp,bd_ret,show (!!((logs,true):List Int×Bool).2)=true from rfl,bdG_t,hmay,bd_ret,List.nil_append,Ao (Yz (by omega) (by omega)),V1 hsm.1 hsm.2,bd_ret,hlr,bd_ret,
  show (ln r != t.regs)=false from by unfold ln;rw[bne_eq_false_iff_eq];exact hrl,Bool.not_true,Bool.or_self,Bool.or_self,br_false,
  show (decide ((N:Int)<0) || decide ((N:Int)>200))=false from by rw[Bool.or_eq_false_iff,decide_eq_false_iff_not,decide_eq_false_iff_not];omega,br_false,
  show Te r=some r from Ao (Yz (by omega) (by omega)),bd_ret,Ajw hsm.1 hsm.2,bd_ret]
 by_cases hz:N=0
 ·subst hz
  refine⟨r,M,rfl,rfl,hr,hM,fun _=>⟨rfl,rfl⟩,fun h=>by omega⟩
 have h1:1≤N:=by omega
 obtain⟨P,R,hP,hRr,p1,p2,p3,p4,p5,p6⟩:=lastK hm hN h1
 have h0:InvS t logs 0 ([],r,M):=⟨hr,hM,fun d hd=>(by cases hd),fun j _=>Nat.zero_le _⟩
 rw[Bu (by omega),Aj (by omega) (by omega),Aj (by omega) (by omega),show ((N:Int)==0)=false from by simp[hz],br_false,Aj (by omega) (by omega),Aj (by omega) (by omega),Aj (by omega) (by omega)]
 have Y:=Amb hm hn hN h1 h0 (regs0:=r) p6 p5
 rw[show lp (Fr t k r N (logs,true)) ([],r,M,0)=_ from Y,bd_ret,Out.on_go]
 obtain⟨g,e,hg⟩:=S9 (f:=Gr t k N) (ρ:=Empty) (n:=R) (fun (g:List Due×List (List Int)×List Int) i=>(g.1,g.2.1,g.2.2,i)) (fun pa g=>KInv t k logs N ([],r,M) (R * P) (pa * P) g) (fun pa g hpa hg=>by
   obtain⟨g',e',h'⟩:=Amx hm hn h0 hP ⟨p1,p2⟩ (by omega) hpa p5 hg
   refine⟨g',?_,h'⟩
   unfold Gr
   simp only
   rw[Bu (by omega),e',bd_ret,Out.on_go]
   simp only
   rw[Aj (by omega) (by omega)]) (fun g=>by unfold Gr;exact Bt (by omega)) ([],M,r) ⟨by rw[Nat.zero_mul];exact F8 _,by rw[Nat.zero_mul];rfl,by rw[Nat.zero_mul];rfl⟩
 rw[show lp (Gr t k N) ([],M,r,0)=_ from e,bd_ret,Out.on_go]
 obtain⟨D,M',r'⟩:=g
 obtain⟨a1,a2,a3⟩:=hg
 simp only at a1 a2 a3
 subst a2 a3
 have hI:=R9 hm hn (N:=N) h0 (last:=R * P) (R * P) (by omega)
 have hIe:=R9 hm hn (N:=N) h0 (last:=R * P) (R * P+7) (by omega)
 have hlen:=hI.len
 have hDm:∀ d∈D,((R * P:Nat):Int)≤d.due∧d.due≤((R * P:Nat):Int)+5∧0≤d.reg∧d.reg<t.regs∧InR d.v:=fun d hd=>hI.due d (a1.mem.1 hd)
 obtain⟨S,e1,e2,e3⟩:=Tw (D:=D) (fun d hd=>by have:=hDm d hd;exact⟨by omega,by omega⟩) (by rw[a1.1];omega)
 obtain⟨S',t1,t2,t3,t4,t5⟩:=Ack hm hn (N:=N) h0 p5 e2 (e3.symm.trans a1) 7 (by omega)
 have hnil:S'=[]:=by
  cases hS':S' with
  | nil=>rfl
  | cons d S'' =>
   have hd:d∈(stS t k logs N ([],r,M) (R * P) (R * P+7)).1:=t2.mem.1 (by rw[hS'];exact List.mem_cons_self ..)
   have q1:=(hIe.due d hd).1
   have q2:=t5 d hd
   omega
 refine⟨(stS t k logs N ([],r,M) (R * P) (R * P+7)).2.1,(stS t k logs N ([],r,M) (R * P) (R * P+7)).2.2,?_,rfl,hIe.regs,hIe.mem,fun h=>absurd h hz,fun _ L hL=>(by
  obtain rfl:L=R * P:=by omega
  rfl)⟩
 simp only
 rw[Ajl (A:=S) (Z:=[]) e1 (List.append_nil _).symm (fun d hd=>by have:=hDm d (e3.mem.2 hd);have:=hI.regs.len;omega) (fun d hd=>by cases hd) (by rw[←e3.1,a1.1];omega),bd_ret,t3,hnil,t4]
 rfl
end
def Aij (l:Lp) (s:Sta) (t:Nat):List Int:=(Pj l (Ej l s t).1 (Ej l s t).2 t).1
theorem Aa4 (l:Lp) (s:Sta):∀ (t j:Nat),j<t+3→(Ej l s t).1.getD j []=if j<t then Aij l s (t - 1 - j) else Ye s.bef (j - t)
 | 0,0,_=>rfl
 | 0,1,_=>rfl
 | 0,2,_=>rfl
 | 0,j+3,h=>by omega
 | t+1,0,_=>rfl
 | t+1,j+1,h=>by
  have ih:=Aa4 l s t j (by omega)
  show (Ej l s t).1.getD j []=_
  rw[ih]
  by_cases hj:j<t
  ·rw[if_pos hj,if_pos (by omega),show t+1 - 1 - (j+1)=t - 1 - j from by omega]
  ·rw[if_neg hj,if_neg (by omega),show j+1 - (t+1)=j - t from by omega]
theorem Aju {s:Sta}{j i:Nat} (h:i<s.bef.length):ele (Ye s.bef j) (i:Int)=(ele s.bef (i:Int)).getD j 0:=by
 have e:ele s.bef (i:Int)=s.bef[i]:=by rw[Cs,List.getD_eq_getElem?_getD,List.getElem?_eq_getElem h];rfl
 rw[e,Cs,List.getD_eq_getElem?_getD,Ye,List.getElem?_map,List.getElem?_eq_getElem h]
 rfl
theorem V4 {α:Type} [Inhabited α] {a b:List α}:a=b↔(a.length=b.length∧∀ i:Nat,i<a.length→ele a (i:Int)=ele b (i:Int)):=by
 constructor
 ·rintro rfl;exact⟨rfl,fun _ _=>rfl⟩
 ·rintro ⟨h1,h2⟩
  apply List.ext_getElem h1
  intro i hi hi'
  have:=h2 i hi
  simpa [Cs,List.getD_eq_getElem?_getD,hi,hi'] using this
theorem Z1 (a b:List Int) (h:a.length≤9223372036854775806):Hj a b=some (tb (a=b)):=by
 unfold Hj
 by_cases h0:a.length=b.length
 ·rw[show (ln a != ln b)=false from by unfold ln;simp;omega,br_false]
  rcases Mt (f:=Gt a b) (n:=a.length) (p:=fun i=>ele a (i:Int)=ele b (i:Int)) (fun i hi _=>by
    have e:Gt a b i=br (!tb (ele a (i:Int)=ele b (i:Int))) (some (.ret false)) (some (.next ((i:Int)+1))):=by
     unfold Gt
     rw[Bu (by unfold ln;omega),Av (by omega) (by unfold ln;omega),Av (by omega) (by unfold ln;omega),Aj (by omega) (by omega),neB]
    rw[e]
    exact⟨fun h=>by rw[Cc h];rfl,fun h=>by rw[B0 h];rfl⟩) (by unfold Gt;exact Bt (by unfold ln;omega)) with ⟨h1,e1⟩ | ⟨h1,e1⟩
  ·rw[e1,bd_ret,Out.on_go,Cc (V4.2 ⟨h0,h1⟩)]
  ·rw[e1,bd_ret,Out.on_ret,B0 fun hh=>h1 (V4.1 hh).2]
 ·rw[show (ln a != ln b)=true from by unfold ln;simp;omega,br_true,B0 fun hh=>h0 (by rw[hh])]
theorem Ank (a b:List (List Int)) (h:a.length≤9223372036854775806) (h2:∀ r∈a,r.length≤9223372036854775806):Lm a b=some (tb (a=b)):=by
 unfold Lm
 by_cases h0:a.length=b.length
 ·rw[show (ln a != ln b)=false from by unfold ln;simp;omega,br_false]
  rcases Mt (f:=Ip a b) (n:=a.length) (p:=fun i=>ele a (i:Int)=ele b (i:Int)) (fun i hi _=>by
    have e:Ip a b i=br (!tb (ele a (i:Int)=ele b (i:Int))) (some (.ret false)) (some (.next ((i:Int)+1))):=by
     have hr:=O5 (p:=fun r:List Int=>r.length≤9223372036854775806) h2 hi
     unfold Ip
     rw[Bu (by unfold ln;omega),Av (by omega) (by unfold ln;omega),Av (by omega) (by unfold ln;omega),Aj (by omega) (by omega),Z1 _ _ hr,bd_ret]
    rw[e]
    exact⟨fun h=>by rw[Cc h];rfl,fun h=>by rw[B0 h];rfl⟩) (by unfold Ip;exact Bt (by unfold ln;omega)) with ⟨h1,e1⟩ | ⟨h1,e1⟩
  ·rw[e1,bd_ret,Out.on_go,Cc (V4.2 ⟨h0,h1⟩)]
  ·rw[e1,bd_ret,Out.on_ret,B0 fun hh=>h1 (V4.1 hh).2]
 ·rw[show (ln a != ln b)=true from by unfold ln;simp;omega,br_true,B0 fun hh=>h0 (by rw[hh])]
section
variable {t : Tgt} {k : Krn} {M : List (List Int)}
end
end Go.Rd
end
section
namespace Go.Rd
structure Pipe where
 (n N:Nat)
 (pace regs:Int)
 (T R P:Nat→Int)
 (val:Nat→Nat→Int)
namespace Pipe
def cyc (y:Pipe) (m σ:Nat):Int:=y.T m+σ * y.pace
def due (y:Pipe) (m σ:Nat):Int:=y.R m+σ * y.pace
def reg (y:Pipe) (m σ:Nat):Int:=(y.P m+σ) % y.regs
def In (y:Pipe) (m σ:Nat):Prop:=m<y.n∧σ<y.N
def ent (y:Pipe) (m σ:Nat):Due:=⟨y.due m σ,y.reg m σ,y.val σ m⟩
structure Regs (y:Pipe) (r0 r:List Int) (c:Int):Prop where
 len:(r.length:Int)=y.regs
 put:∀ m σ,y.In m σ→y.due m σ≤c→(∀ m' σ',y.In m' σ'→y.due m σ≤y.due m' σ'→y.due m' σ'≤c→y.reg m' σ'=y.reg m σ→m'=m∧σ'=σ)→ele r (y.reg m σ)=y.val σ m
 old:∀ x:Int,0≤x→x<y.regs→(∀ m σ,y.In m σ→y.due m σ≤c→y.reg m σ≠x)→ele r x=ele r0 x
structure Dues (y:Pipe) (D:Nat→Nat→Prop) (c:Int) (q:List Due):Prop where
 src:∀ d∈q,∃ m σ,y.In m σ∧D m σ∧c≤y.due m σ∧d=y.ent m σ
 all:∀ m σ,y.In m σ→D m σ→c≤y.due m σ→y.ent m σ∈q
theorem Dues.congr {y:Pipe}{D D':Nat→Nat→Prop}{c:Int}{q:List Due} (h:y.Dues D c q) (e:∀ m σ,y.In m σ→(D m σ↔D' m σ)):y.Dues D' c q :=
 ⟨fun d hd=>by obtain⟨m,σ,a,b,x⟩:=h.src d hd;exact⟨m,σ,a,(e m σ a).1 b,x⟩,fun m σ a b x=>h.all m σ a ((e m σ a).2 b) x⟩
theorem Dues.add {y:Pipe}{D:Nat→Nat→Prop}{c:Int}{q:List Due} (h:y.Dues D c q) {m0 σ0:Nat} (hi:y.In m0 σ0) (hc:c≤y.due m0 σ0):y.Dues (fun m σ=>D m σ∨(m=m0∧σ=σ0)) c (q++[y.ent m0 σ0]) :=
  ⟨fun d hd=>by
    rcases List.mem_append.1 hd with hd | hd
    · obtain⟨m,σ,a,b,x⟩:=h.src d hd;exact⟨m,σ,a,.inl b,x⟩
    · exact⟨m0,σ0,hi,.inr ⟨rfl,rfl⟩,hc,List.mem_singleton.1 hd⟩,
   fun m σ a b x=>by
    rcases b with b | ⟨rfl,rfl⟩
    · exact List.mem_append.2 (.inl (h.all m σ a b x))
    · exact List.mem_append.2 (.inr (List.mem_singleton.2 rfl))⟩
def land1 (c:Int) (r:List Int) (d:Due):List Int:=if d.due=c then upd r d.reg d.v else r
theorem land_len (c:Int):∀ (q:List Due) (r:List Int),(q.foldl (land1 c) r).length=r.length
 | [],r=>rfl
 | d::q,r=>by
  rw[List.foldl_cons,land_len c q]
  unfold land1
  split
  ·exact Ck
  ·rfl
theorem To (c:Int) {x:Int} (hx:0≤x):∀ (q:List Due) (r:List Int),(∀ d∈q,0≤d.reg)→(∀ d∈q,d.due=c→d.reg≠x)→ele (q.foldl (land1 c) r) x=ele r x
 | [],r,_,_=>rfl
 | d::q,r,h0,h=>by
  rw[List.foldl_cons,To c hx q _ (fun d hd=>h0 d (List.mem_cons_of_mem _ hd)) fun d hd=>h d (List.mem_cons_of_mem _ hd)]
  unfold land1
  split
  ·have:=h d (List.mem_cons_self ..) ‹_›
   have:=h0 d (List.mem_cons_self ..)
   exact Hc (by omega)
  ·rfl
theorem Ac4 (c:Int) {x v:Int} (hx:0≤x):∀ (q:List Due) (r:List Int),x<r.length→(∀ d∈q,0≤d.reg)→(∃ d∈q,d.due=c∧d.reg=x)→(∀ d∈q,d.due=c→d.reg=x→d.v=v)→ele (q.foldl (land1 c) r) x=v
 | [],r,_,_,h,_=>by obtain⟨d,h,_⟩:=h;cases h
 | d::q,r,hl,h0,he,h=>by
  rw[List.foldl_cons]
  by_cases hq:∃ d∈q,d.due=c∧d.reg=x
  ·exact Ac4 c hx q _ (by unfold land1;split <;> simp only[Ck,hl]) (fun d hd=>h0 d (List.mem_cons_of_mem _ hd)) hq fun d hd=>h d (List.mem_cons_of_mem _ hd)
  ·rw[To c hx q _ (fun d hd=>h0 d (List.mem_cons_of_mem _ hd)) fun d hd h1 h2=>hq ⟨d,hd,h1,h2⟩]
   obtain⟨d',hd',h1,h2⟩:=he
   rcases List.mem_cons.1 hd' with rfl | hd'
   ·have:=h d' (List.mem_cons_self ..) h1 h2
    unfold land1
    rw[if_pos h1,h2,Lq ⟨hx,by unfold ln;omega⟩,this]
   ·exact absurd ⟨d',hd',h1,h2⟩ hq
structure Ok (y:Pipe):Prop where
 regs:1≤y.regs
 pace:1≤y.pace
 wait:∀ m,m<y.n→y.T m<y.R m
theorem reg_bd {y:Pipe} (h:y.Ok) (m σ:Nat):0≤y.reg m σ∧y.reg m σ<y.regs:=⟨Int.emod_nonneg _ (by have:=h.regs;omega),Int.emod_lt_of_pos _ (by have:=h.regs;omega)⟩
theorem cyc_due {y:Pipe} (h:y.Ok) {m σ:Nat} (hi:y.In m σ):y.cyc m σ<y.due m σ:=by
 have:=h.wait m hi.1
 unfold cyc due;omega
theorem Regs.land {y:Pipe} (h:y.Ok) {r0 r:List Int}{c:Int} (hr:y.Regs r0 r (c - 1)) {q:List Due} (hq:y.Dues (fun m σ=>y.cyc m σ<c) c q):y.Regs r0 (q.foldl (land1 c) r) c:=by
 have h0:∀ d∈q,0≤d.reg:=fun d hd=>by
  obtain⟨m,σ,_,_,_,rfl⟩:=hq.src d hd
  exact(reg_bd h m σ).1
 have hrl:=hr.len
 refine⟨by rw[land_len];exact hr.len,fun m σ hi hd hu=>?_,fun x hx hx2 hu=>?_⟩
 ·have hb:=reg_bd h m σ
  by_cases hc:y.due m σ=c
  ·refine Ac4 c hb.1 q r (by omega) h0 ⟨_,hq.all m σ hi (by have:=cyc_due h hi;omega) (by omega),hc,rfl⟩ fun d hdq h1 h2=>?_
   obtain⟨m',σ',hi',_,hc',rfl⟩:=hq.src d hdq
   have h1':y.due m' σ'=c:=h1
   obtain⟨rfl,rfl⟩:=hu m' σ' hi' (by omega) (by omega) h2
   rfl
  ·rw[To c hb.1 q r h0 fun d hdq h1 h2=>?_]
   ·exact hr.put m σ hi (by omega) fun m' σ' hi' a b e=>hu m' σ' hi' a (by omega) e
   ·obtain⟨m',σ',hi',_,hc',rfl⟩:=hq.src d hdq
    have h1':y.due m' σ'=c:=h1
    obtain⟨rfl,rfl⟩:=hu m' σ' hi' (by omega) (by omega) h2
    exact hc h1'
 ·rw[To c hx q r h0 fun d hdq h1 h2=>?_]
  ·exact hr.old x hx hx2 fun m σ hi hd=>hu m σ hi (by omega)
  ·obtain⟨m',σ',hi',_,hc',rfl⟩:=hq.src d hdq
   have h1':y.due m' σ'=c:=h1
   exact hu m' σ' hi' (by omega) h2
theorem Dues.left {y:Pipe}{D:Nat→Nat→Prop}{c:Int}{q:List Due} (hq:y.Dues D c q):y.Dues D (c+1) (q.filter fun d=>decide (d.due≠c)) :=
  ⟨fun d hd=>by
    obtain⟨h1,h2⟩:=List.mem_filter.1 hd
    obtain⟨m,σ,hi,hD,hc,rfl⟩:=hq.src d h1
    have h2':y.due m σ≠c:=of_decide_eq_true h2
    exact⟨m,σ,hi,hD,by omega,rfl⟩,
   fun m σ hi hD hc=>List.mem_filter.2 ⟨hq.all m σ hi hD (by omega),by
    have:y.due m σ≠c:=by omega
    exact decide_eq_true this⟩⟩
end Pipe
def Nd (m σ m' σ':Nat):Prop:=σ<σ'∨(σ=σ'∧m<m')
theorem Afz {m σ m' σ':Nat} (h1:¬Nd m σ m' σ') (h2:¬Nd m' σ' m σ):m=m'∧σ=σ':=by unfold Nd at *;omega
def wd (M:List (List Int)) (a x:Nat):Int:=ele (ele M (a:Int)) (x:Int)
def Words (hits:Nat→Nat→Nat→Nat→Prop) (val:Nat→Nat→Int) (D:Nat→Nat→Prop) (M0 M:List (List Int)):Prop :=
 ∀ a x,(∃ m σ,D m σ∧hits m σ a x∧(∀ m' σ',D m' σ'→hits m' σ' a x→¬Nd m σ m' σ')∧wd M a x=val σ m)∨((∀ m σ,D m σ→¬hits m σ a x)∧wd M a x=wd M0 a x)
section
variable {hits : Nat → Nat → Nat → Nat → Prop} {val : Nat → Nat → Int} {M0 : List (List Int)}
theorem Words.same {D D':Nat→Nat→Prop}{M M':List (List Int)} (h:Words hits val D M0 M) (h':Words hits val D' M0 M') {a x:Nat} (e:∀ m σ,hits m σ a x→(D m σ↔D' m σ)):wd M a x=wd M' a x:=by
 rcases h a x with ⟨m,σ,d,hh,hl,hv⟩ | ⟨hn,hv⟩ <;> rcases h' a x with ⟨m',σ',d',hh',hl',hv'⟩ | ⟨hn',hv'⟩
 ·obtain⟨rfl,rfl⟩:=Afz (hl m' σ' ((e m' σ' hh').2 d') hh') (hl' m σ ((e m σ hh).1 d) hh)
  rw[hv,hv']
 ·exact absurd hh (hn' m σ ((e m σ hh).1 d))
 ·exact absurd hh' (hn m' σ' ((e m' σ' hh').2 d'))
 ·rw[hv,hv']
theorem Words.congr {D D':Nat→Nat→Prop}{M:List (List Int)} (h:Words hits val D M0 M) (e:∀ m σ a x,hits m σ a x→(D m σ↔D' m σ)):Words hits val D' M0 M:=fun a x=>by
 rcases h a x with ⟨m,σ,d,hh,hl,hv⟩ | ⟨hn,hv⟩
 ·exact .inl ⟨m,σ,(e m σ a x hh).1 d,hh,fun m' σ' d' hh'=>hl m' σ' ((e m' σ' a x hh').2 d') hh',hv⟩
 ·exact .inr ⟨fun m σ d hh=>hn m σ ((e m σ a x hh).2 d) hh,hv⟩
theorem Words.skip {D:Nat→Nat→Prop}{M:List (List Int)} (h:Words hits val D M0 M) {m0 σ0:Nat} (hn:∀ a x,¬hits m0 σ0 a x):Words hits val (fun m σ=>D m σ∨(m=m0∧σ=σ0)) M0 M :=
 h.congr fun m σ a x hh=>⟨.inl,fun d=>by
  rcases d with d | ⟨rfl,rfl⟩
  ·exact d
  ·exact absurd hh (hn a x)⟩
theorem Words.put {D:Nat→Nat→Prop}{M M':List (List Int)} (h:Words hits val D M0 M) {m0 σ0 a0 x0:Nat} (hh:∀ a x,hits m0 σ0 a x↔a=a0∧x=x0) (hl:∀ m σ,D m σ→hits m σ a0 x0→¬Nd m0 σ0 m σ)
  (hv:wd M' a0 x0=val σ0 m0) (ho:∀ a x,¬(a=a0∧x=x0)→wd M' a x=wd M a x):Words hits val (fun m σ=>D m σ∨(m=m0∧σ=σ0)) M0 M':=fun a x=>by
 by_cases hax:a=a0∧x=x0
 ·obtain⟨rfl,rfl⟩:=hax
  refine .inl ⟨m0,σ0,.inr ⟨rfl,rfl⟩,(hh _ _).2 ⟨rfl,rfl⟩,fun m σ d hm=>?_,hv⟩
  rcases d with d | ⟨rfl,rfl⟩
  ·exact hl m σ d hm
  ·unfold Nd;omega
 ·have hne:¬hits m0 σ0 a x:=fun q=>hax ((hh a x).1 q)
  rw[ho a x hax]
  rcases h a x with ⟨m,σ,d,hm,hl',hv'⟩ | ⟨hn,hv'⟩
  ·refine .inl ⟨m,σ,.inl d,hm,fun m' σ' d' hm'=>?_,hv'⟩
   rcases d' with d' | ⟨rfl,rfl⟩
   ·exact hl' m' σ' d' hm'
   ·exact absurd hm' hne
  ·refine .inr ⟨fun m σ d hm=>?_,hv'⟩
   rcases d with d | ⟨rfl,rfl⟩
   ·exact hn m σ d hm
   ·exact hne hm
end
theorem Ai2 {M:List (List Int)}{a0 x0:Nat}{z:Int} (ha:a0<M.length) (hx:x0<(ele M (a0:Int)).length):wd (updG M a0 x0 z) a0 x0=z:=by
 unfold wd updG
 rw[Lq ⟨by omega,by unfold ln;omega⟩,Lq ⟨by omega,by unfold ln;omega⟩]
theorem Ai3 {M:List (List Int)}{a0 x0 a x:Nat}{z:Int} (ha:a0<M.length) (h:¬(a=a0∧x=x0)):wd (updG M a0 x0 z) a x=wd M a x:=by
 unfold wd updG
 by_cases h1:a0=a
 ·subst h1
  rw[Lq ⟨by omega,by unfold ln;omega⟩,Hc (by omega)]
 ·rw[Hc (by omega)]
theorem Vi:∀ (n:Nat) (l:List Nat),l.Nodup→(∀ x∈l,x<n)→l.length≤n
 | 0,l,_,h=>by
  cases l with
  | nil=>exact Nat.le_refl _
  | cons x l=>exact absurd (h x (List.mem_cons_self ..)) (by omega)
 | n+1,l,hn,h=>by
  have:=Vi n (l.erase n) (hn.erase n) fun x hx=>by
   have h1:=(List.Nodup.mem_erase_iff hn).1 hx
   have:=h x h1.2
   omega
  have:=List.length_erase (a:=n) (l:=l)
  split at this <;> omega
theorem Ahg {order:List Int}{n:Nat} (hl:order.length=n) (hr:∀ s:Nat,s<n→0≤ele order (s:Int)∧ele order (s:Int)<n) (hd:∀ s,s<n→∀ i,i<s→ele order (i:Int)≠ele order (s:Int)) {i:Nat} (hi:i<n):∃ s:Nat,s<n∧ele order (s:Int)=i:=by
 by_cases c:∃ s:Nat,s<n∧ele order (s:Int)=i
 ·exact c
 ·have h1:((List.range n).map fun s:Nat=>(ele order (s:Int)).toNat).Nodup:=by
   rw[List.nodup_iff_pairwise_ne,List.pairwise_map,]
   refine List.Pairwise.imp_of_mem ?_ (List.pairwise_lt_range (n:=n))
   intro a b ha hb hab e
   have ha:=List.mem_range.1 ha;have hb:=List.mem_range.1 hb
   have:=hr a ha;have:=hr b hb;have:=hd b hb a hab
   omega
  have h2:(i::(List.range n).map fun s:Nat=>(ele order (s:Int)).toNat).Nodup:=by
   refine List.nodup_cons.2 ⟨fun hm=>?_,h1⟩
   obtain⟨s,hs,e⟩:=List.mem_map.1 hm
   have hs:=List.mem_range.1 hs
   have:=hr s hs
   exact c ⟨s,hs,by omega⟩
  have:=Vi n _ h2 fun x hx=>by
   rcases List.mem_cons.1 hx with rfl | hx
   ·exact hi
   ·obtain⟨s,hs,e⟩:=List.mem_map.1 hx
    have hs:=List.mem_range.1 hs
    have:=hr s hs
    omega
  rw[List.length_cons,List.length_map,List.length_range] at this
  omega
end Go.Rd
end
section
namespace Go.Rd
theorem Aka {α:Type} [Inhabited α] {v:List α}{x:α}{j:Nat} (h:j<v.length):ele (v++[x]) (j:Int)=ele v (j:Int):=by
 rw[Cs,Cs,List.getD_eq_getElem?_getD,List.getD_eq_getElem?_getD,List.getElem?_append_left h]
theorem Akb {α:Type} [Inhabited α] {v:List α}{x:α}:ele (v++[x]) (v.length:Int)=x:=by
 rw[Cs,List.getD_eq_getElem?_getD,List.getElem?_append_right (Nat.le_refl _),Nat.sub_self];rfl
def S0 (logs:List Int) (past:List (List Int)) (t:Int) (p:List Int×List (List Int)) (s:Stm):Int :=
 if s.op=1 then s.n else if s.op=2 then t else if s.op=3 then ele (ele p.2 s.ar) (idx s.sp s.pl t (ele logs s.ar)) else if s.op=4 then Po past p.1 s.a else opV (s.op - 10) (Po past p.1 s.a) (Po past p.1 s.b)
theorem Th (logs:List Int) (past:List (List Int)) (t:Int) (p:List Int×List (List Int)) (s:Stm) :
  Pt logs past t p s=(p.1++[S0 logs past t p s],if s.op=4 then updG p.2 s.ar (idx s.sp s.pl t (ele logs s.ar)) (S0 logs past t p s) else p.2):=by
 unfold Pt S0
 by_cases h1:s.op=1
 ·rw[if_pos h1,if_pos h1,if_neg (by omega)]
 rw[if_neg h1,if_neg h1]
 by_cases h2:s.op=2
 ·rw[if_pos h2,if_pos h2,if_neg (by omega)]
 rw[if_neg h2,if_neg h2]
 by_cases h3:s.op=3
 ·rw[if_pos h3,if_pos h3,if_neg (by omega)]
 rw[if_neg h3,if_neg h3]
 by_cases h4:s.op=4
 ·rw[if_pos h4,if_pos h4,if_pos h4]
 ·rw[if_neg h4,if_neg h4,if_neg h4]
theorem Wy {l:Lp}{past mem:List (List Int)}{t:Int}:∀ i,i≤l.body.length→(Jj l past mem t i).1.length=i
 | 0,_=>rfl
 | i+1,h=>by rw[Ib (by omega),Th,List.length_append,Wy i (by omega)];rfl
theorem Acw {l:Lp}{past mem:List (List Int)}{t:Int}{i j:Nat} (hj:j<i):∀ d,i+d≤l.body.length→ele (Jj l past mem t (i+d)).1 (j:Int)=ele (Jj l past mem t i).1 (j:Int)
 | 0,_=>rfl
 | d+1,h=>by
  rw[←Nat.add_assoc,Ib (by omega),Th]
  show ele (_++[_]) _=_
  rw[Aka (by rw[Wy _ (by omega)];omega),Acw hj d (by omega)]
def Mm (l:Lp) (s:Sta) (σ m:Nat):Int:=ele (Aij l s σ) (m:Int)
def T8 (l:Lp) (s:Sta) (z a:Int):Int:=if 0≤z then ele (Aij l s z.toNat) a else ele (ele s.bef a) (-z - 1)
def prt (l:Lp) (s:Sta) (σ m:Nat):List Int×List (List Int):=Jj l (Ej l s σ).1 (Ej l s σ).2 (σ:Int) m
def Vu (l:Lp) (s:Sta) (σ m:Nat):List (List Int):=(prt l s σ m).2
section
variable {l : Lp} {s : Sta}
theorem Y6 {σ i j:Nat} (hj:j<i) (hi:i≤l.body.length):ele (prt l s σ i).1 (j:Int)=Mm l s σ j:=by
 unfold Mm Aij
 rw[Lf]
 have:=Acw (l:=l) (past:=(Ej l s σ).1) (mem:=(Ej l s σ).2) (t:=(σ:Int)) hj (l.body.length - i) (by omega)
 rw[show i+(l.body.length - i)=l.body.length from by omega] at this
 exact this.symm
theorem Ww (h:StaOk l s) {σ j:Nat} (hj:j≤l.body.length) {x:Rf} (hx:RefOk l.body.length j x):Po (Ej l s σ).1 (prt l s σ j).1 x=T8 l s (σ - x.bk) x.st:=by
 obtain⟨a1,a2,a3,a4,a5⟩:=hx
 have hst:((x.st.toNat:Nat):Int)=x.st:=by omega
 unfold Po T8
 by_cases hb:x.bk=0
 ·have h4:=a4 hb
  rw[if_pos hb,if_pos (by omega),show ((σ:Int) - x.bk).toNat=σ from by omega,←hst]
  exact Y6 (by omega) hj
 ·have h5:=a5 hb
  have hh:=Aa4 l s σ (x.bk - 1).toNat (by omega)
  rw[if_neg hb,show ele (Ej l s σ).1 (x.bk - 1)=(Ej l s σ).1.getD (x.bk - 1).toNat [] from rfl,hh]
  by_cases hz:0≤(σ:Int) - x.bk
  ·rw[if_pos hz,if_pos (by omega),show σ - 1 - (x.bk - 1).toNat=((σ:Int) - x.bk).toNat from by omega]
  ·have hl:=h.len
   rw[if_neg hz,if_neg (by omega)]
   conv=>lhs;rw[←hst]
   rw[Aju (by omega),hst]
   unfold ele
   congr 1
   omega
theorem Mk (h:StaOk l s) {σ j:Nat} (hj:j<l.body.length):Mm l s σ j=S0 l.logs (Ej l s σ).1 σ (prt l s σ j) (ele l.body (j:Int)):=by
 rw[←Y6 (i:=j+1) (by omega) (by omega)]
 unfold prt
 rw[Ib hj,Th]
 have e:=Wy (l:=l) (past:=(Ej l s σ).1) (mem:=(Ej l s σ).2) (t:=(σ:Int)) j (by omega)
 have key:∀ (v:List Int) (x:Int),v.length=j→ele (v++[x]) (j:Int)=x:=fun v x hv=>by subst hv;exact Akb
 exact key _ _ e
theorem Aks (h:StaOk l s) {σ j:Nat} (hj:j<l.body.length):Vu l s σ (j+1)=if (ele l.body (j:Int)).op=4 then updG (Vu l s σ j) (ele l.body (j:Int)).ar (idx (ele l.body (j:Int)).sp (ele l.body (j:Int)).pl σ (ele l.logs (ele l.body (j:Int)).ar)) (Mm l s σ j) else Vu l s σ j:=by
 rw[Mk h hj]
 unfold Vu prt
 rw[Ib hj,Th]
theorem Akr {σ:Nat}:Vu l s (σ+1) 0=Vu l s σ l.body.length:=by
 show (Pj l (Ej l s σ).1 (Ej l s σ).2 σ).2=_
 rw[Lf];rfl
theorem Agx (h:StaOk l s) {σ j:Nat} (hj:j<l.body.length) (ho:(ele l.body (j:Int)).op=1):Mm l s σ j=(ele l.body (j:Int)).n:=by
 rw[Mk h hj,S0,if_pos ho]
theorem Ajz (h:StaOk l s) {σ j:Nat} (hj:j<l.body.length) (ho:(ele l.body (j:Int)).op=2):Mm l s σ j=σ:=by
 rw[Mk h hj,S0,if_neg (by omega),if_pos ho]
theorem Aj0 (h:StaOk l s) {σ j:Nat} (hj:j<l.body.length) (ho:(ele l.body (j:Int)).op=3):Mm l s σ j=ele (ele (Vu l s σ j) (ele l.body (j:Int)).ar) (idx (ele l.body (j:Int)).sp (ele l.body (j:Int)).pl σ (ele l.logs (ele l.body (j:Int)).ar)):=by
 rw[Mk h hj,S0,if_neg (by omega),if_neg (by omega),if_pos ho];rfl
theorem Y5 (h:StaOk l s) {σ j:Nat} (hj:j<l.body.length) (ho:(ele l.body (j:Int)).op=4):Mm l s σ j=T8 l s (σ - (ele l.body (j:Int)).a.bk) (ele l.body (j:Int)).a.st:=by
 rw[Mk h hj,S0,if_neg (by omega),if_neg (by omega),if_neg (by omega),if_pos ho,Ww h (by omega) (show RefOk l.body.length j (ele l.body (j:Int)).a from (h.loop.stm j hj).1 (.inl ho))]
theorem Aoy (h:StaOk l s) {σ j:Nat} (hj:j<l.body.length) (ho:(ele l.body (j:Int)).op>10):Mm l s σ j=opV ((ele l.body (j:Int)).op - 10) (T8 l s (σ - (ele l.body (j:Int)).a.bk) (ele l.body (j:Int)).a.st) (T8 l s (σ - (ele l.body (j:Int)).b.bk) (ele l.body (j:Int)).b.st):=by
 rw[Mk h hj,S0,if_neg (by omega),if_neg (by omega),if_neg (by omega),if_neg (by omega),Ww h (by omega) (show RefOk l.body.length j (ele l.body (j:Int)).a from (h.loop.stm j hj).1 (.inr ho)),Ww h (by omega) (show RefOk l.body.length j (ele l.body (j:Int)).b from (h.loop.stm j hj).2.1 ho)]
def Rp (l:Lp) (m σ a x:Nat):Prop:=(ele l.body (m:Int)).op=4∧(ele l.body (m:Int)).ar=a∧idx (ele l.body (m:Int)).sp (ele l.body (m:Int)).pl σ (ele l.logs (ele l.body (m:Int)).ar)=x
theorem Tg (hl:LoopOk l) {j:Nat} (hj:j<l.body.length) (ho:Rm (ele l.body (j:Int))):Ha l.logs.length (ele l.body (j:Int)):=by
 have q3:=(hl.stm j hj).2.2
 rw[show l.body.getD j Stm.zero=ele l.body (j:Int) from rfl] at q3
 unfold Rm at ho
 rcases q3 with h | h | h | h | h <;> first | exact h.2.2.1 | omega
theorem Apf (hf:l.Fine) (h:StaOk l s) {σ j:Nat} (hs:σ≤200) (hj:j≤l.body.length):MemOk l (Vu l s σ j):=by
 obtain⟨r1,r2,r3⟩:=R5 hf h σ (by omega)
 exact(Tk hf (t:=(σ:Int)) (by unfold InR;omega) (fun r hr=>(r1 r hr).rng) r2 j hj).2.2
theorem Zd (hf:l.Fine) (h:StaOk l s):∀ σ:Nat,σ≤200→∀ j:Nat,j≤l.body.length→Words (Rp l) (Mm l s) (fun m σ'=>m<l.body.length∧Nd m σ' j σ) s.mem (Vu l s σ j):=fun σ=>by
 have inner:∀ σ:Nat,σ≤200→Words (Rp l) (Mm l s) (fun m σ'=>m<l.body.length∧Nd m σ' 0 σ) s.mem (Vu l s σ 0)→∀ j:Nat,j≤l.body.length→Words (Rp l) (Mm l s) (fun m σ'=>m<l.body.length∧Nd m σ' j σ) s.mem (Vu l s σ j):=fun σ hσ h0 j=>by
  induction j with
  | zero=>exact fun _=>h0
  | succ j ih =>
   intro hj
   have ih:=ih (by omega)
   have hD:∀ m σ',((m<l.body.length∧Nd m σ' j σ)∨(m=j∧σ'=σ))↔(m<l.body.length∧Nd m σ' (j+1) σ):=fun m σ'=>by unfold Nd;omega
   rw[Aks h (by omega)]
   by_cases ho:(ele l.body (j:Int)).op=4
   ·have hm:=Apf hf h hσ (show j≤l.body.length by omega)
    have hw:=Tg h.loop (show j<l.body.length by omega) (.inr ho)
    obtain⟨w1,w2,w3⟩:=O3 h.loop hm hw (σ:Int)
    obtain⟨a,ha⟩:=Int.eq_ofNat_of_zero_le w1.1
    obtain⟨x,hx⟩:=Int.eq_ofNat_of_zero_le w3.1
    rw[if_pos ho]
    refine Words.congr (Words.put ih (m0:=j) (σ0:=σ) (a0:=a) (x0:=x) (fun a' x'=>?_) (fun m σ' hd hh=>?_) ?_ (fun a' x' hn=>?_)) fun m σ' _ _ _=>hD m σ'
    ·unfold Rp
     rw[ha] at hx ⊢
     rw[hx]
     constructor
     ·rintro ⟨_,e1,e2⟩;omega
     ·rintro ⟨rfl,rfl⟩;exact⟨ho,rfl,rfl⟩
    ·have:=hd.2;unfold Nd at this ⊢;omega
    ·unfold IX ln at w1 w3
     rw[hx] at w3
     rw[hx,ha]
     rw[ha] at w1 w3
     exact Ai2 (by omega) (by omega)
    ·unfold IX ln at w1
     rw[hx,ha]
     rw[ha] at w1
     exact Ai3 (by omega) hn
   ·rw[if_neg ho]
    exact Words.congr (Words.skip ih (m0:=j) (σ0:=σ) fun a x hh=>ho hh.1) fun m σ' _ _ _=>hD m σ'
 induction σ with
 | zero=>exact fun hσ=>inner 0 hσ fun a x=>.inr ⟨fun m σ' d=>by have:=d.2;unfold Nd at this;omega,rfl⟩
 | succ σ ih =>
  refine fun hσ=>inner (σ+1) hσ ?_
  rw[Akr]
  exact Words.congr (ih (by omega) l.body.length (Nat.le_refl _)) fun m σ' _ _ _=>by unfold Nd;omega
theorem Afx {s p x z q:Int}:(s * (x - z * q)+p) % z=(s * x+p) % z:=by
 rw[show s * (x - z * q)+p=(s * x+p)+z * (-(s * q)) from by rw[Int.mul_sub,Int.mul_left_comm s z q,Int.mul_neg];omega,Int.add_mul_emod_self_left]
theorem Aml {a b:Stm}{size σ σ' u:Int} (hs:0<size) (h:(a.sp * σ+a.pl) % size=(b.sp * σ'+b.pl) % size):Mr a b (σ' - σ - size * u) size:=by
 have h0:=Int.emod_nonneg σ (show size≠0 by omega)
 have h1:=Int.emod_lt_of_pos σ hs
 have h2:=Int.emod_add_mul_ediv σ size
 refine⟨(σ % size).toNat,by omega,?_⟩
 rw[show (((σ % size).toNat:Nat):Int)=σ - size * (σ / size) from by omega,Afx,
  show σ - size * (σ / size)+(σ' - σ - size * u)=σ' - size * (σ / size+u) from by rw[Int.mul_add];omega,Afx]
 exact h
theorem Aky {P:Int→Prop}{lo:Int}:∀ d:Nat,P (lo+d)→∃ e:Nat,e≤d∧P (lo+e)∧∀ k,lo≤k→k<lo+e→¬P k:=by
 intro d
 induction d using Nat.strongRecOn with
 | _ d ih =>
  intro h
  by_cases c:∃ e:Nat,e<d∧P (lo+e)
  ·obtain⟨e,he,hp⟩:=c
   obtain⟨e',h1,h2,h3⟩:=ih e he hp
   exact⟨e',by omega,h2,h3⟩
  ·refine⟨d,Nat.le_refl _,h,fun k h1 h2 hp=>c ⟨(k - lo).toNat,by omega,?_⟩⟩
   rw[show lo+(((k - lo).toNat:Nat):Int)=k from by omega]
   exact hp
end
section
variable {l : Lp} {t : Tgt} {k : Krn} {order : List Int}
def Cp (l:Lp) (t:Tgt) (k:Krn) (order:List Int) (s:Sta) (N:Nat):Pipe :=
 ⟨l.body.length,N,k.pace,t.regs,fun m=>ele (Ba l t k order).time (m:Int),fun m=>ele (Ba l t k order).ready (m:Int),fun m=>ele (Ba l t k order).places (m:Int),Mm l s⟩
theorem Qw {m:Nat} (hm:m<l.body.length):ele (Ba l t k order).time (m:Int)=L9 k (A8 k order m)∧ele (Ba l t k order).ready (m:Int)=L9 k (A8 k order m)+Cn t (A8 k order m).op∧ele (Ba l t k order).places (m:Int)=(A8 k order m).dest+(A8 k order m).stage :=
 ⟨Fa hm,Fa hm,Fa hm⟩
theorem Aau {t:Tgt} (ht:Cu t=true) (op:Int):1≤Cn t op∧Cn t op≤6:=by
 unfold Cn
 rw[if_pos ht]
 rw[Dj] at ht
 exact S8 (by omega) (by omega) (by omega)
theorem Aaz (h:LayP l t k order) {s:Sta}{N:Nat}:(Cp l t k order s N).Ok:=by
 have hy:=I0 h
 refine⟨hy.regs.1,hy.pace.1,fun m hm=>?_⟩
 show ele (Ba l t k order).time (m:Int)<ele (Ba l t k order).ready (m:Int)
 have hw:=Aau h.tgt (A8 k order m).op
 obtain⟨a1,a2,_⟩:=Qw (t:=t) (k:=k) (order:=order) (show m<l.body.length from hm)
 omega
theorem Uq (h:TakesP l t k order) {s:Sta}{N m σ m' σ':Nat} (hm:m<l.body.length) (hm':m'<l.body.length) (hσ:σ'≤200) (hlt:Nd m σ m' σ') (hc:Ab0 l m m')
  (hx:idx (ele l.body (m:Int)).sp (ele l.body (m:Int)).pl σ (ele l.logs (ele l.body (m:Int)).ar)=idx (ele l.body (m':Int)).sp (ele l.body (m':Int)).pl σ' (ele l.logs (ele l.body (m':Int)).ar)) :
  (Cp l t k order s N).cyc m σ+(if (ele l.body (m:Int)).op=4 then 1 else 0)≤(Cp l t k order s N).cyc m' σ':=by
 have hl:=h.lay.loop
 obtain⟨c1,c2,c3,c4⟩:=hc
 obtain⟨n1,i1,g1,g2⟩:=La hl hm c1
 obtain⟨n2,i2,_⟩:=La hl hm' c2
 obtain⟨p1,p2,p3⟩:=Z6 (show (ele l.logs (ele l.body (m:Int)).ar).toNat≤5 from by omega)
 have hle:σ≤σ':=by unfold Nd at hlt;omega
 rw[←c3] at hx
 unfold Yy at n1 n2
 have o1:Pl (ele l.body (m:Int)).sp (ele l.body (m:Int)).pl σ (ele l.logs (ele l.body (m:Int)).ar):=⟨g1,g2,n1.1,n1.2.1,n1.2.2.1,n1.2.2.2,by omega,by omega⟩
 have o2:Pl (ele l.body (m':Int)).sp (ele l.body (m':Int)).pl σ' (ele l.logs (ele l.body (m:Int)).ar):=⟨g1,g2,n2.1,n2.2.1,n2.2.2.1,n2.2.2.2,by omega,by omega⟩
 unfold idx at hx
 rw[if_pos o1,if_pos o2] at hx
 have hS:Hl l (ele l.body (m:Int))=2 ^ (ele l.logs (ele l.body (m:Int)).ar).toNat:=rfl
 rw[←hS] at hx p1 p2
 generalize hz:Hl l (ele l.body (m:Int))=z at hx p1 p2
 -- how far back,within one round
 have key:∃ u:Int,C3 m m'≤(σ':Int) - σ - z * u∧(σ':Int) - σ - z * u≤z∧0≤z * u:=by
  unfold C3
  by_cases hd:σ=σ'
  ·refine⟨0,?_,?_,?_⟩
   ·rw[if_neg (by unfold Nd at hlt;omega)];omega
   ·omega
   ·omega
  ·have q0:=Int.emod_nonneg ((σ':Int) - σ - 1) (show z≠0 by omega)
   have q1:=Int.emod_lt_of_pos ((σ':Int) - σ - 1) (show 0<z by omega)
   have q2:=Int.emod_add_mul_ediv ((σ':Int) - σ - 1) z
   have q3:=Int.mul_nonneg (show 0≤z by omega) (Int.ediv_nonneg (show 0≤(σ':Int) - σ - 1 by omega) (show 0≤z by omega))
   refine⟨((σ':Int) - σ - 1) / z,?_,by omega,q3⟩
   split <;> omega
 obtain⟨u,k1,k2,k3⟩:=key
 have hmeet:=Aml (u:=u) (show 0<z by omega) hx
 obtain⟨e,he,hp,hfirst⟩:=Aky (P:=fun b=>Mr (ele l.body (m:Int)) (ele l.body (m':Int)) b z) (lo:=C3 m m') ((σ':Int) - σ - z * u - C3 m m').toNat (by
  rw[show C3 m m'+((((σ':Int) - σ - z * u - C3 m m').toNat:Nat):Int)=(σ':Int) - σ - z * u from by omega]
  exact hmeet)
 have hedge:=h.edge ⟨m,m',C3 m m'+e,if (ele l.body (m:Int)).op=4 then 1 else 0⟩ ⟨m',hm',.inr ⟨m,hm,⟨⟨c1,c2,c3,c4⟩,rfl,rfl,rfl,by show C3 m m'≤C3 m m'+e;omega,by rw[hz];show C3 m m'+e≤z;omega,by rw[hz];exact hp,fun b b1 b2=>by rw[hz];exact hfirst b b1 b2⟩⟩⟩
 have hpc:=(I0 h.lay).pace
 have hpe:(Ba l t k order).pace=k.pace:=rfl
 unfold P7 at hedge
 rw[hpe] at hpc hedge
 have hmul:=Int.mul_le_mul_of_nonneg_right (show C3 m m'+e≤(σ':Int) - σ by omega) (show 0≤k.pace by omega)
 rw[Int.sub_mul] at hmul
 show ele (Ba l t k order).time (m:Int)+σ * k.pace+_≤ele (Ba l t k order).time (m':Int)+σ' * k.pace
 have hedge':ele (Ba l t k order).time (m:Int)+(if (ele l.body (m:Int)).op=4 then 1 else 0)≤ele (Ba l t k order).time (m':Int)+(C3 m m'+e) * k.pace:=hedge
 omega
def Ace (l:Lp) (t:Tgt) (k:Krn) (order:List Int) (b:List (List Int)) (r0:List Int):Prop:=∀ a:Nat,a<l.body.length→∀ q:Nat,q<(Lv l.body (a:Int)).toNat→ele r0 (Iy (Ba l t k order) (a:Int) q)=ele (ele b (a:Int)) (q:Int)
theorem Afs (h:LayP l t k order) {m:Nat} (hm:m<l.body.length):(A8 k order m).op=(ele l.body (m:Int)).op∧(A8 k order m).ar=(ele l.body (m:Int)).ar∧(A8 k order m).sp=(ele l.body (m:Int)).sp∧(A8 k order m).pl=(ele l.body (m:Int)).pl∧(A8 k order m).n=(ele l.body (m:Int)).n:=(h.ord m hm).2.2
theorem Akh (h:TakesP l t k order) {s:Sta}{N m σ:Nat}{r0 r:List Int} (h0:Ace l t k order s.bef r0) (hr:(Cp l t k order s N).Regs r0 r ((Cp l t k order s N).cyc m σ)) (hm:m<l.body.length) (hσ:σ<N)
  {x:Rf} (hx:x∈A3 (ele l.body (m:Int))):ele r ((ele (Ba l t k order).places x.st+(σ - x.bk)) % t.regs)=T8 l s (σ - x.bk) x.st:=by
 have hy:=I0 h.lay
 obtain⟨b1,b2,b3,b4⟩:=Qv h.lay m hm x hx
 obtain⟨a,ha⟩:=Int.eq_ofNat_of_zero_le b1
 have hal:a<l.body.length:=by omega
 have hedge:=h.edge ⟨x.st,m,x.bk,Cn t (ele l.body x.st).op⟩ ⟨m,hm,.inl ⟨x,hx,rfl⟩⟩
 have hpc:1≤k.pace:=hy.pace.1
 have hrg:1≤t.regs:=hy.regs.1
 unfold P7 at hedge
 have hedge':ele (Ba l t k order).time (a:Int)+Cn t (ele l.body (a:Int)).op≤ele (Ba l t k order).time (m:Int)+x.bk * k.pace:=by rw[ha] at hedge;exact hedge
 obtain⟨l1,l2,l3⟩:=Qw (t:=t) (k:=k) (order:=order) hal
 have hso:=(Afs h.lay hal).1
 rw[hso,←l1] at l2
 have hcyc:(Cp l t k order s N).cyc m σ=ele (Ba l t k order).time (m:Int)+σ * k.pace:=rfl
 have hdue:∀ m' σ':Nat,(Cp l t k order s N).due m' σ'=ele (Ba l t k order).ready (m':Int)+σ' * k.pace:=fun _ _=>rfl
 have hreg:∀ m' σ':Nat,(Cp l t k order s N).reg m' σ'=(ele (Ba l t k order).places (m':Int)+σ') % t.regs:=fun _ _=>rfl
 have hap:∀ m':Nat,m'<l.body.length→Jm (Ba l t k order) a m':=fun m' hm'=>h.apart a m' hal hm'
 by_cases hz:0≤(σ:Int) - x.bk
 ·obtain⟨z,hz'⟩:=Int.eq_ofNat_of_zero_le hz
  have hzp:(z:Int) * k.pace=σ * k.pace - x.bk * k.pace:=by rw[←hz',Int.sub_mul]
  have:=hr.put a z ⟨hal,by show z<N;omega⟩ (by rw[hdue,hcyc];omega) fun m' σ' hi d1 d2 d3=>by
   rw[hdue,hdue] at d1
   rw[hdue,hcyc] at d2
   rw[hreg,hreg] at d3
   have hjp:((σ':Int) - z) * k.pace=σ' * k.pace - z * k.pace:=Int.sub_mul ..
   by_cases hne:m'=a∧σ'=z
   ·exact hne
   ·exfalso
    refine hap m' hi.1 ((σ':Int) - z) (by omega) ?_ (.inl ⟨m,x,⟨hm,hx,by rw[ha],.inl ⟨?_,?_⟩⟩⟩)
    ·have e:=Int.emod_eq_emod_iff_emod_sub_eq_zero.1 d3
     rw[show ele (Ba l t k order).places (m':Int)+((σ':Int) - z) - ele (Ba l t k order).places (a:Int)=ele (Ba l t k order).places (m':Int)+σ' - (ele (Ba l t k order).places (a:Int)+z) from by omega]
     exact e
    ·show _≤_+((σ':Int) - z) * k.pace
     omega
    ·show _+((σ':Int) - z) * k.pace≤_+x.bk * k.pace
     omega
  rw[ha,hz',←hreg,this]
  unfold T8
  rw[if_pos (by omega)]
  rfl
 ·have hq:(-((σ:Int) - x.bk) - 1).toNat<(Lv l.body (a:Int)).toNat:=by
   have:=Af6 (body:=l.body) (a:Int) l.body.length m hm x hx ha
   unfold Lv
   omega
  have hi:=h0 a hal _ hq
  rw[show Iy (Ba l t k order) (a:Int) (-((σ:Int) - x.bk) - 1).toNat=(ele (Ba l t k order).places (a:Int)+(σ - x.bk)) % t.regs from by
   unfold Iy
   rw[show ele (Ba l t k order).places (a:Int) - (((-((σ:Int) - x.bk) - 1).toNat:Nat):Int) - 1=ele (Ba l t k order).places (a:Int)+(σ - x.bk) from by omega]
   rfl] at hi
  have old:=hr.old ((ele (Ba l t k order).places (a:Int)+(σ - x.bk)) % t.regs) (Int.emod_nonneg _ (by omega)) (Int.emod_lt_of_pos _ (by omega)) fun m' σ' hin d1 d2=>by
   rw[hdue,hcyc] at d1
   rw[hreg] at d2
   have hjp:((σ':Int) - (σ - x.bk)) * k.pace=σ' * k.pace - (σ * k.pace - x.bk * k.pace):=by rw[Int.sub_mul,Int.sub_mul]
   refine hap m' hin.1 ((σ':Int) - (σ - x.bk)) (.inr (by omega)) ?_ (.inl ⟨m,x,⟨hm,hx,by rw[ha],.inr ⟨by omega,by omega,?_⟩⟩⟩)
   ·have e:=Int.emod_eq_emod_iff_emod_sub_eq_zero.1 d2
    rw[show ele (Ba l t k order).places (m':Int)+((σ':Int) - (σ - x.bk)) - ele (Ba l t k order).places (a:Int)=ele (Ba l t k order).places (m':Int)+σ' - (ele (Ba l t k order).places (a:Int)+(σ - x.bk)) from by omega]
    exact e
   ·show _+((σ':Int) - (σ - x.bk)) * k.pace≤_+x.bk * k.pace
    omega
  rw[ha,old,hi]
  unfold T8
  rw[if_neg hz,show (((-((σ:Int) - x.bk) - 1).toNat:Nat):Int)=-((σ:Int) - x.bk) - 1 from by omega]
theorem Akw (hf:l.Fine) (h:TakesP l t k order) {s:Sta} (hs:StaOk l s) {N m σ:Nat} (hN:N≤200) {M:List (List Int)} (hM:MemOk l M)
  (hw:Words (Rp l) (Mm l s) (fun m' σ'=>(Cp l t k order s N).In m' σ'∧(Cp l t k order s N).cyc m' σ'<(Cp l t k order s N).cyc m σ) s.mem M) (hm:m<l.body.length) (hσ:σ<N) (ho:(ele l.body (m:Int)).op=3) :
  ele (ele M (ele l.body (m:Int)).ar) (idx (ele l.body (m:Int)).sp (ele l.body (m:Int)).pl σ (ele l.logs (ele l.body (m:Int)).ar))=Mm l s σ m:=by
 rw[Aj0 hs hm ho]
 have hwk:=Tg hs.loop hm (.inl ho)
 obtain⟨w1,w2,w3⟩:=O3 hs.loop hM hwk (σ:Int)
 obtain⟨a,ha⟩:=Int.eq_ofNat_of_zero_le w1.1
 obtain⟨x,hx⟩:=Int.eq_ofNat_of_zero_le w3.1
 have hq:=Zd hf hs σ (by omega) m (by omega)
 have:=Words.same hw hq (a:=a) (x:=x) fun m' σ' hh=>by
  obtain⟨h1,h2,h3⟩:=hh
  constructor
  ·rintro ⟨hi,hc⟩
   refine⟨hi.1,Classical.byContradiction fun hn=>?_⟩
   by_cases hn2:Nd m σ m' σ'
   ·have:=Uq (s:=s) (N:=N) h hm hi.1 (by have:=hi.2;show σ'≤200;have:σ'<N:=hi.2;omega) hn2 ⟨.inl ho,.inr h1,by rw[ha,h2],.inr h1⟩ (by rw[hx,h3])
    rw[if_neg (by omega)] at this
    omega
   ·obtain⟨e1,e2⟩:=Afz hn hn2
    subst e1;omega
  ·rintro ⟨hm',hl⟩
   have hσ':σ'<N:=by unfold Nd at hl;omega
   refine⟨⟨hm',hσ'⟩,?_⟩
   have:=Uq (s:=s) (N:=N) h hm' hm (by omega) hl ⟨.inr h1,.inl ho,by rw[ha,h2],.inl h1⟩ (by rw[hx,h3])
   rw[if_pos h1] at this
   omega
 rw[hx,ha]
 exact this
end
theorem W5 {α:Type} [Inhabited α] {a b:List α} (h1:a.length=b.length) (h2:∀ i:Nat,i<a.length→ele a (i:Int)=ele b (i:Int)):a=b:=by
 apply List.ext_getElem h1
 intro i hi hi'
 have:=h2 i hi
 simpa [Cs,List.getD_eq_getElem?_getD,hi,hi'] using this
theorem Tu {n b:Nat} (h:n≤10000000) (hb:b≤32):AL n b:=⟨by rw[F4];omega,Nat.le_trans (Nat.mul_le_mul h hb) (by omega)⟩
theorem Afu {l:Lp} (hl:LoopOk l) {M:List (List Int)} (hM:MemOk l M):Rc M=some (l.logs,true):=by
 have hml:=hM.len
 have h3:=hl.1
 unfold Rc
 have X:=Ew (f:=M9 M) (ρ:=List Int×Bool) (fun i=>((List.range i).map (fun j:Nat=>ele l.logs (j:Int)),(i:Int))) M.length (fun i hi=>by
  have hlg:=hl.log i (by omega)
  have hr:=hM.row i hi
  rw[show l.logs.getD i 0=ele l.logs (i:Int) from rfl] at hlg hr
  rw[show M.getD i []=ele M (i:Int) from rfl] at hr
  obtain⟨L,hL⟩:=Int.eq_ofNat_of_zero_le hlg.1
  rw[hL] at hr hlg
  have hp:=Z6 (show L≤5 by omega)
  have Y:=Ew (f:=M8 M i) (ρ:=Empty) (fun j=>(j:Int)) L (fun j hj=>by
   have hpj:=Z6 (show j≤5 by omega)
   have:(2:Nat) ^ j<2 ^ L:=Nat.pow_lt_pow_right (by omega) hj
   unfold M8
   rw[decide_eq_true (show (j:Int)≤5 by omega),bdG_t,Aap _ (by omega),bd_ret,Fb (fun _=>⟨by omega,by unfold ln;omega⟩),Bool.true_and,
    show (2 ^ ((j:Int).toNat) != ln (ele M (i:Int)))=true from by
     rw[bne_iff_ne];unfold ln;rw[Int.toNat_natCast];rw[show ((L:Int).toNat)=L from Int.toNat_natCast L] at hr;omega,br_true,Aj (by omega) (by omega)]
   rfl) (by
   unfold M8
   rw[decide_eq_true (show (L:Int)≤5 by omega),bdG_t,Aap _ (by omega),bd_ret,Fb (fun _=>⟨by omega,by unfold ln;omega⟩),Bool.true_and,
    show (2 ^ ((L:Int).toNat) != ln (ele M (i:Int)))=false from by
     rw[bne_eq_false_iff_eq];unfold ln;omega,br_false])
  unfold M9
  simp only
  rw[Bu (by unfold ln;omega),show lp (M8 M i) 0=_ from Y,bd_ret,Out.on_go,Bt (by omega),Ao (Tu (by simp;omega) (by omega)),Aj (by omega) (by omega),←hL]
  rw[rm_succ];rfl) (by unfold M9;exact Bt (by unfold ln;omega))
 rw[show lp (M9 M) ([],0)=_ from X,bd_ret,Out.on_go,hml,Oi]
section
variable {l : Lp} {t : Tgt} {k : Krn} {order : List Int} {s : Sta}
theorem Wt (hf:l.Fine) (hs:StaOk l s) {z a:Int} (hz:z≤200):InR (T8 l s z a):=by
 unfold T8
 split
 ·have h1:=(R5 hf hs (z.toNat+1) (by omega)).1 (Aij l s z.toNat) (List.mem_cons_self ..)
  exact Q0 h1.rng _
 ·exact Qh hs.rbef _ _
theorem Anj (h:LayP l t k order) {N m σ:Nat} (hm:m<l.body.length) {c:Nat}:(Cp l t k order s N).cyc m σ=c↔((A8 k order m).slot=(c:Int) % k.pace∧(σ:Int)=(c:Int) / k.pace - (A8 k order m).stage):=by
 have ho:=Ks h.may h.n (h.ord m hm).1
 obtain⟨⟨a1,a2,a3,a4,a5⟩,_⟩:=ho
 obtain⟨l1,_⟩:=Qw (t:=t) (k:=k) (order:=order) hm
 have e:(Cp l t k order s N).cyc m σ=(A8 k order m).slot+k.pace * ((A8 k order m).stage+σ):=by
  show ele (Ba l t k order).time (m:Int)+σ * k.pace=_
  rw[l1,Int.mul_add,Int.mul_comm (σ:Int)];unfold L9;omega
 have hp:=h.may.pace
 constructor
 ·intro hc
  rw[e] at hc
  rw[←hc,Int.add_mul_emod_self_left,Int.emod_eq_of_lt a1 a2,Int.add_mul_ediv_left _ _ (by omega),Int.ediv_eq_zero_of_lt a1 a2]
  exact⟨rfl,by omega⟩
 ·rintro ⟨h1,h2⟩
  rw[e,h1,show (A8 k order m).stage+σ=(c:Int) / k.pace from by omega]
  exact Int.emod_add_mul_ediv _ _
theorem Qi (h:LayP l t k order) {N m σ:Nat} (hi:(Cp l t k order s N).In m σ):(0≤(Cp l t k order s N).cyc m σ)∧(Cp l t k order s N).cyc m σ<(N+k.stages - 1) * k.pace:=by
 have hm:m<l.body.length:=hi.1
 have hσ:σ<N:=hi.2
 have ho:=Ks h.may h.n (h.ord m hm).1
 obtain⟨⟨a1,a2,a3,a4,a5⟩,_⟩:=ho
 obtain⟨l1,_⟩:=Qw (t:=t) (k:=k) (order:=order) hm
 have hp:=h.may.pace
 have e:(Cp l t k order s N).cyc m σ=(A8 k order m).slot+((A8 k order m).stage+σ) * k.pace:=by
  show ele (Ba l t k order).time (m:Int)+σ * k.pace=_
  rw[l1,Int.add_mul];unfold L9;rw[Int.mul_comm k.pace];omega
 have m0:=Int.mul_nonneg (show 0≤(A8 k order m).stage+σ by omega) (show 0≤k.pace by omega)
 have m1:=Int.mul_le_mul_of_nonneg_right (show (A8 k order m).stage+σ+1≤N+k.stages - 1 by omega) (show 0≤k.pace by omega)
 rw[Int.add_mul ((A8 k order m).stage+σ)] at m1
 omega
def Mp (l:Lp) (t:Tgt) (k:Krn) (order:List Int) (s:Sta) (N:Nat) (c i:Int) (m σ:Nat):Prop:=(Cp l t k order s N).cyc m σ<c∨((Cp l t k order s N).cyc m σ=c∧ele order (m:Int)<i)
structure OpsI (l:Lp) (t:Tgt) (k:Krn) (order:List Int) (s:Sta) (N:Nat) (c i:Nat) (q:List Due) (M:List (List Int)):Prop where
 due:(Cp l t k order s N).Dues (Mp l t k order s N c i) (c+1) q
 wds:Words (Rp l) (Mm l s) (fun m σ=>(Cp l t k order s N).In m σ∧Mp l t k order s N c i m σ) s.mem M
 ok:MemOk l M
 len:q.length≤16 * c+i
theorem Amh (hf:l.Fine) (h:TakesP l t k order) (hs:StaOk l s) {N:Nat} (hN:N≤200) {c:Nat} (hc:c≤300000) {regs0 r0 r:List Int} (h0:Ace l t k order s.bef r0) (hr:(Cp l t k order s N).Regs r0 r c)
  {M0:List (List Int)} (hw0:Words (Rp l) (Mm l s) (fun m σ=>(Cp l t k order s N).In m σ∧(Cp l t k order s N).cyc m σ<c) s.mem M0) (hM0:MemOk l M0) {i:Nat} (hi:i<k.ops.length) {q:List Due}{M:List (List Int)} (hI:OpsI l t k order s N c i q M) :
  ∃ q' M',Fq t k regs0 N (l.logs,true) M0 c r (q,M,(i:Int))=some (.next (q',M',(i:Int)+1))∧OpsI l t k order s N c (i+1) q' M':=by
 have hL:=h.lay
 have hn:=hL.loop.2.2.1
 have hkn:=hL.n
 have hp:=hL.may.pace
 have hok:=Aaz (s:=s) (N:=N) hL
 have hR:=(I0 hL).regs
 have hrr:(Ba l t k order).regs=t.regs:=rfl
 rw[hrr] at hR
 have hrl:(r.length:Int)=t.regs:=hr.len
 obtain⟨m,hm,hom⟩:=Ahg (order:=order) (n:=l.body.length) hL.no (fun s' hs'=>(hL.ord s' hs').1) (fun s' hs' j hj=>(hL.ord s' hs').2.1 j hj) (show i<l.body.length by omega)
 have hop:ele k.ops (i:Int)=A8 k order m:=by unfold A8;rw[hom]
 have hinj:∀ m',m'<l.body.length→ele order (m':Int)=i→m'=m:=fun m' hm' he=>by
  rcases Nat.lt_trichotomy m' m with hlt | he' | hlt
  ·exact absurd (he.trans hom.symm) ((hL.ord m hm).2.1 m' hlt)
  ·exact he'
  ·exact absurd (hom.trans he.symm) ((hL.ord m' hm').2.1 m hlt)
 obtain⟨so1,so2,so3,so4,so5⟩:=Afs hL hm
 have hone:=Ks hL.may hL.n (hL.ord m hm).1
 obtain⟨⟨a1,a2,a3,a4,a5⟩,⟨d1,d2,d3,d4,d5,d6,d7,d8⟩,_⟩:=hone
 have hst:(A8 k order m).stage≤1000:=(R6 hL.may (Ks hL.may hL.n (hL.ord m hm).1)).2.2.2.2
 have td:Int.tdiv (c:Int) k.pace=(c:Int) / k.pace:=Int.tdiv_eq_ediv_of_nonneg (by omega)
 have tm:Int.tmod (c:Int) k.pace=(c:Int) % k.pace:=Int.tmod_eq_emod_of_nonneg (by omega)
 have hpa0:=Int.ediv_nonneg (show 0≤(c:Int) by omega) (show 0≤k.pace by omega)
 have hpa1:=Int.ediv_le_self (b:=k.pace) (show 0≤(c:Int) by omega)
 have hact:=fun σ:Nat=>Anj (s:=s) (N:=N) hL hm (σ:=σ) (c:=c)
 obtain⟨b1,b2,b3,b4⟩:=hI
 have hlast:k.ops.length≤16:=hL.may.n.2
 unfold Fq
 simp only
 rw[Bu (by unfold ln;omega),Av (by omega) (by unfold ln;omega),hop,td,tm,Aj (by omega) (by omega),Ao (by omega)]
 generalize hpa:(c:Int) / k.pace=pa at hpa0 hpa1 hact
 by_cases hc1:(A8 k order m).slot=(c:Int) % k.pace∧0≤pa - (A8 k order m).stage∧pa - (A8 k order m).stage<N
 ·obtain⟨e1,e2,e3⟩:=hc1
  obtain⟨σ,hσ⟩:=Int.eq_ofNat_of_zero_le e2
  have hσN:σ<N:=by omega
  have hcy:=(hact σ).2 ⟨e1,by omega⟩
  have hin:(Cp l t k order s N).In m σ:=⟨hm,hσN⟩
  have hcond:((((A8 k order m).slot != (c:Int) % k.pace) || (decide (pa - (A8 k order m).stage<0))) || (decide (pa - (A8 k order m).stage≥(N:Int))))=false:=by
   rw[Bool.or_eq_false_iff,Bool.or_eq_false_iff,bne_eq_false_iff_eq,decide_eq_false_iff_not,decide_eq_false_iff_not];omega
  have tma:∀ a:Int,0≤a→Int.tmod (a+pa) t.regs=(a+pa) % t.regs:=fun a ha=>Int.tmod_eq_emod_of_nonneg (by omega)
  have hra:∀ a:Int,0≤(a+pa) % t.regs∧(a+pa) % t.regs<t.regs:=fun a=>⟨Int.emod_nonneg _ (by omega),Int.emod_lt_of_pos _ (by omega)⟩
  have ha':=hra (A8 k order m).a
  have hb':=hra (A8 k order m).b
  rw[hcond,br_false,Aj (by omega) (by omega),Ao (show t.regs≠0 by omega),tma _ d3,Av ha'.1 (by unfold ln;omega),Aj (by omega) (by omega),Ao (show t.regs≠0 by omega),tma _ d5,Av hb'.1 (by unfold ln;omega),tma _ d1]
  -- what is read
  have hread:∀ j,j<(A3 (ele l.body (m:Int))).length→ele r ((Afj (A8 k order m) j+pa) % t.regs)=T8 l s (σ - (ele (A3 (ele l.body (m:Int))) (j:Int)).bk) (ele (A3 (ele l.body (m:Int))) (j:Int)).st:=fun j hj=>by
   have hnm:=h.name m hm j hj
   unfold Vb at hnm
   rw[hnm,Int.emod_add_emod,show ele (Ba l t k order).places (ele (A3 (ele l.body (m:Int))) (j:Int)).st - (ele (A3 (ele l.body (m:Int))) (j:Int)).bk - (A8 k order m).stage+pa=ele (Ba l t k order).places (ele (A3 (ele l.body (m:Int))) (j:Int)).st+(σ - (ele (A3 (ele l.body (m:Int))) (j:Int)).bk) from by omega]
   exact Akh (N:=N) h h0 (by rw[hcy];exact hr) hm hσN (Cv hj)
  -- the result
  have hwt:=Aau hL.tgt (A8 k order m).op
  obtain⟨y1,y2,y3⟩:=Qw (t:=t) (k:=k) (order:=order) hm
  have hwv:Bi t.w0 t.w1 t.w2 (Fl (A8 k order m).op)=Cn t (A8 k order m).op:=by unfold Cn;rw[if_pos hL.tgt]
  have hdue:(Cp l t k order s N).due m σ=c+Cn t (A8 k order m).op:=by
   rw[←hcy]
   show ele (Ba l t k order).ready (m:Int)+σ * k.pace=ele (Ba l t k order).time (m:Int)+σ * k.pace+_
   rw[y2,←y1];omega
  have hreg:(Cp l t k order s N).reg m σ=((A8 k order m).dest+pa) % t.regs:=by
   show (ele (Ba l t k order).places (m:Int)+σ) % t.regs=_
   rw[y3,show (A8 k order m).dest+(A8 k order m).stage+σ=(A8 k order m).dest+pa from by omega]
  have hent:∀ v,v=Mm l s σ m→Due.mk (c+Bi t.w0 t.w1 t.w2 (Fl (A8 k order m).op)) (((A8 k order m).dest+pa) % t.regs) v=(Cp l t k order s N).ent m σ:=fun v hv=>by
   unfold Pipe.ent
   rw[hdue,hreg,hwv,hv];rfl
  have hcl:0≤Fl (A8 k order m).op∧Fl (A8 k order m).op<3:=Fp _
  have hD:∀ m' σ',(Cp l t k order s N).In m' σ'→((Mp l t k order s N c i m' σ'∨(m'=m∧σ'=σ))↔Mp l t k order s N c (i+1:Nat) m' σ'):=fun m' σ' hi'=>by
   unfold Mp
   constructor
   ·rintro ((h1 | ⟨h1,h2⟩) | ⟨rfl,rfl⟩)
    ·exact .inl h1
    ·exact .inr ⟨h1,by omega⟩
    ·exact .inr ⟨hcy,by omega⟩
   ·rintro (h1 | ⟨h1,h2⟩)
    ·exact .inl (.inl h1)
    ·by_cases e:ele order (m':Int)=i
     ·obtain rfl:=hinj m' hi'.1 e
      have:=((hact σ').1 h1).2
      exact .inr ⟨rfl,by omega⟩
     ·exact .inl (.inr ⟨h1,by omega⟩)
  have hdu:(Cp l t k order s N).Dues (Mp l t k order s N c (i+1:Nat)) (c+1) (q++[(Cp l t k order s N).ent m σ]):=(b1.add hin (by rw[hdue];omega)).congr hD
  have hlen:(q++[(Cp l t k order s N).ent m σ]).length≤16 * c+(i+1):=by rw[List.length_append];simp;omega
  have hal:AL (q++[(Cp l t k order s N).ent m σ]).length 24:=Tu (by omega) (by omega)
  have hwd:(ele l.body (m:Int)).op≠4→Words (Rp l) (Mm l s) (fun m' σ'=>(Cp l t k order s N).In m' σ'∧Mp l t k order s N c (i+1:Nat) m' σ') s.mem M:=fun ho =>
   Words.congr (Words.skip b2 (m0:=m) (σ0:=σ) fun a x hh=>ho hh.1) fun m' σ' a x _=>by
    constructor
    ·rintro (⟨h1,h2⟩ | ⟨rfl,rfl⟩)
     ·exact⟨h1,(hD m' σ' h1).1 (.inl h2)⟩
     ·exact⟨hin,(hD _ _ hin).1 (.inr ⟨rfl,rfl⟩)⟩
    ·rintro ⟨h1,h2⟩
     rcases (hD m' σ' h1).2 h2 with h3 | h3
     ·exact .inl ⟨h1,h3⟩
     ·exact .inr h3
  have hix:ck (IR ((i:Int)+1))=fun (x:Option (Stp (List Due×List (List Int)×Int) Empty))=>x:=by funext x;exact Aj (by omega) (by omega)
  by_cases o1:(A8 k order m).op=1
  ·rw[show ((A8 k order m).op==1)=true from by simpa using o1,br_true,Ek,bd_ret,Av hcl.1 hcl.2,hwv,Aj (by omega) (by omega),Aj (by omega) (by omega),Ao (show t.regs≠0 by omega),←hwv,hent _ (by rw[Agx hs hm (by rw[←so1];exact o1),so5]),Ao hal,Aj (by omega) (by omega)]
   exact⟨_,_,rfl,⟨hdu,hwd (by rw[←so1];omega),b3,hlen⟩⟩
  rw[show ((A8 k order m).op==1)=false from by simpa using o1,br_false]
  by_cases o2:(A8 k order m).op=2
  ·rw[show ((A8 k order m).op==2)=true from by simpa using o2,br_true,Ek,bd_ret,Av hcl.1 hcl.2,hwv,Aj (by omega) (by omega),Aj (by omega) (by omega),Ao (show t.regs≠0 by omega),←hwv,hent _ (by rw[Ajz hs hm (by rw[←so1];exact o2),hσ]),Ao hal,Aj (by omega) (by omega)]
   exact⟨_,_,rfl,⟨hdu,hwd (by rw[←so1];omega),b3,hlen⟩⟩
  rw[show ((A8 k order m).op==2)=false from by simpa using o2,br_false]
  by_cases o3:(A8 k order m).op=3
  ·have ho3:(ele l.body (m:Int)).op=3:=by rw[←so1];exact o3
   have hwk:=Tg hs.loop hm (.inl ho3)
   obtain⟨w1,w2,w3⟩:=O3 hs.loop hM0 hwk (σ:Int)
   rw[show ((A8 k order m).op==3)=true from by simpa using o3,br_true,so2,so3,so4,hσ,Ao w1,Ao w2,Nl,bd_ret,Ao w3,Ek,bd_ret,Av hcl.1 hcl.2,hwv,Aj (by omega) (by omega),Aj (by omega) (by omega),Ao (show t.regs≠0 by omega),←hwv,hent _ (Akw (N:=N) hf h hs hN hM0 (by rw[hcy];exact hw0) hm hσN ho3),Ao hal,Aj (by omega) (by omega)]
   exact⟨_,_,rfl,⟨hdu,hwd (by omega),b3,hlen⟩⟩
  rw[show ((A8 k order m).op==3)=false from by simpa using o3,br_false]
  by_cases o4:(A8 k order m).op=4
  ·have ho4:(ele l.body (m:Int)).op=4:=by rw[←so1];exact o4
   have hwk:=Tg hs.loop hm (.inr ho4)
   obtain⟨w1,w2,w3⟩:=O3 hs.loop b3 hwk (σ:Int)
   have hu:A3 (ele l.body (m:Int))=[(ele l.body (m:Int)).a]:=by unfold A3;rw[if_pos ho4]
   have hv:ele r (((A8 k order m).a+pa) % t.regs)=Mm l s σ m:=by
    have:=hread 0 (by rw[hu];simp)
    rw[hu] at this
    rw[Y5 hs hm ho4]
    exact this
   have hvr:InR (Mm l s σ m):=by rw[Y5 hs hm ho4];exact Wt hf hs (by have:=(Qv hL m hm _ (show (ele l.body (m:Int)).a∈A3 (ele l.body (m:Int)) by rw[hu];simp)).2.2.1;omega)
   rw[show ((A8 k order m).op==4)=true from by simpa using o4,br_true,so2,so3,so4,hσ,Ao w1,Ao w2,Nl,bd_ret,Ao w3,Ek,bd_ret,Av hcl.1 hcl.2,hwv,Aj (by omega) (by omega),Aj (by omega) (by omega),Ao (show t.regs≠0 by omega),←hwv,hent _ hv,Ao hal,Aj (by omega) (by omega),hv]
   refine⟨_,_,rfl,⟨hdu,?_,b3.updG _ _ _ hvr,hlen⟩⟩
   obtain⟨a,ha⟩:=Int.eq_ofNat_of_zero_le w1.1
   obtain⟨x,hx⟩:=Int.eq_ofNat_of_zero_le w3.1
   unfold IX ln at w1 w3
   rw[hx] at w3 ⊢
   rw[ha] at w1 w3 hx ⊢
   refine Words.congr (Words.put b2 (m0:=m) (σ0:=σ) (a0:=a) (x0:=x) (fun a' x'=>?_) (fun m' σ' hd hh=>?_) (Ai2 (by omega) (by omega)) (fun a' x' hne=>Ai3 (by omega) hne)) fun m' σ' a' x' _=>?_
   ·unfold Rp
    rw[ha,hx]
    constructor
    ·rintro ⟨_,e1,e2⟩;omega
    ·rintro ⟨rfl,rfl⟩;exact⟨ho4,rfl,rfl⟩
   ·intro hlt
    obtain⟨h1,h2,h3⟩:=hh
    have hσ':σ'<N:=hd.1.2
    have:=Uq (s:=s) (N:=N) h hm hd.1.1 (by omega) hlt ⟨.inr ho4,.inr h1,by rw[ha,h2],.inl ho4⟩ (by rw[ha,hx,h2,←h3,h2])
    rw[if_pos ho4,hcy] at this
    have hd2:=hd.2
    unfold Mp at hd2
    omega
   ·constructor
    ·rintro (⟨h1,h2⟩ | ⟨rfl,rfl⟩)
     ·exact⟨h1,(hD m' σ' h1).1 (.inl h2)⟩
     ·exact⟨hin,(hD _ _ hin).1 (.inr ⟨rfl,rfl⟩)⟩
    ·rintro ⟨h1,h2⟩
     rcases (hD m' σ' h1).2 h2 with h3 | h3
     ·exact .inl ⟨h1,h3⟩
     ·exact .inr h3
  rw[show ((A8 k order m).op==4)=false from by simpa using o4,br_false]
  have ho5:(ele l.body (m:Int)).op>10∧(ele l.body (m:Int)).op≤18:=by
   have q3:=(hL.loop.stm m hm).2.2
   rw[show l.body.getD m Stm.zero=ele l.body (m:Int) from rfl] at q3
   rw[so1] at o1 o2 o3 o4
   rcases q3 with h | h | h | h | h <;> omega
  have hu:A3 (ele l.body (m:Int))=[(ele l.body (m:Int)).a,(ele l.body (m:Int)).b]:=by unfold A3;rw[if_neg (by omega),if_pos ho5.1]
  have hva:ele r (((A8 k order m).a+pa) % t.regs)=T8 l s (σ - (ele l.body (m:Int)).a.bk) (ele l.body (m:Int)).a.st:=by
   have:=hread 0 (by rw[hu];simp)
   rw[hu] at this
   exact this
  have hvb:ele r (((A8 k order m).b+pa) % t.regs)=T8 l s (σ - (ele l.body (m:Int)).b.bk) (ele l.body (m:Int)).b.st:=by
   have:=hread 1 (by rw[hu];simp)
   rw[hu] at this
   exact this
  have hba:=(Qv hL m hm (ele l.body (m:Int)).a (by rw[hu];simp)).2.2.1
  have hbb:=(Qv hL m hm (ele l.body (m:Int)).b (by rw[hu];simp)).2.2.1
  have hra1:=Wt hf hs (z:=σ - (ele l.body (m:Int)).a.bk) (a:=(ele l.body (m:Int)).a.st) (by omega)
  have hrb1:=Wt hf hs (z:=σ - (ele l.body (m:Int)).b.bk) (a:=(ele l.body (m:Int)).b.st) (by omega)
  rw[hva,hvb,Aj (by rw[so1];omega) (by rw[so1];omega),Acr _ _ _ hra1 hrb1,bd_ret,Ek,bd_ret,Av hcl.1 hcl.2,hwv,Aj (by omega) (by omega),Aj (by omega) (by omega),Ao (show t.regs≠0 by omega),←hwv,hent _ (by rw[Aoy hs hm ho5.1,so1]),Ao hal,Aj (by omega) (by omega)]
  exact⟨_,_,rfl,⟨hdu,hwd (by omega),b3,hlen⟩⟩
 ·have hcond:((((A8 k order m).slot != (c:Int) % k.pace) || (decide (pa - (A8 k order m).stage<0))) || (decide (pa - (A8 k order m).stage≥(N:Int))))=true:=by
   rw[Bool.or_eq_true,Bool.or_eq_true,bne_iff_ne,decide_eq_true_eq,decide_eq_true_eq];omega
  have hD:∀ m' σ',(Cp l t k order s N).In m' σ'→(Mp l t k order s N c i m' σ'↔Mp l t k order s N c (i+1:Nat) m' σ'):=fun m' σ' hi'=>by
   unfold Mp
   constructor
   ·rintro (h1 | ⟨h1,h2⟩)
    ·exact .inl h1
    ·exact .inr ⟨h1,by omega⟩
   ·rintro (h1 | ⟨h1,h2⟩)
    ·exact .inl h1
    ·by_cases e:ele order (m':Int)=i
     ·obtain rfl:=hinj m' hi'.1 e
      have q:=(hact σ').1 h1
      have:σ'<N:=hi'.2
      exact absurd ⟨q.1,by omega,by omega⟩ hc1
     ·exact .inr ⟨h1,by omega⟩
  rw[hcond,br_true,Aj (by omega) (by omega)]
  exact⟨_,_,rfl,⟨b1.congr hD,Words.congr b2 fun m' σ' a x _=>⟨fun hh=>⟨hh.1,(hD m' σ' hh.1).1 hh.2⟩,fun hh=>⟨hh.1,(hD m' σ' hh.1).2 hh.2⟩⟩,b3,by omega⟩⟩
theorem Apj {y:Pipe}{D:Nat→Nat→Prop}{c:Nat}{q:List Due} (hy:y.Ok) (hq:y.Dues D c q) (hl:q.length≤10000000) {r:List Int} (hr:(r.length:Int)=y.regs) :
  lp (Hd q c) (r,[],0)=some (.go (q.foldl (Pipe.land1 c) r,q.filter (fun d=>decide (d.due≠c)),(q.length:Int))):=by
 have X:=Ew (f:=Hd q c) (ρ:=Empty) (fun i=>((q.take i).foldl (Pipe.land1 c) r,(q.take i).filter (fun d=>decide (d.due≠c)),(i:Int))) q.length (fun i hi=>by
  have hlen:=Pipe.land_len (c:Int) (q.take i) r
  have hfl:((q.take i).filter (fun d=>decide (d.due≠(c:Int)))).length≤i:=Nat.le_trans (List.length_filter_le _ _) (by rw[List.length_take];omega)
  obtain⟨m,σ,_,_,_,he⟩:=hq.src _ (Cv hi)
  have hb:=Pipe.reg_bd hy m σ
  have hrg:(ele q (i:Int)).reg=y.reg m σ:=by rw[he];rfl
  unfold Hd
  simp only
  rw[Bu (by unfold ln;omega),Av (by omega) (by unfold ln;omega),Eu hi,List.foldl_append,List.filter_append]
  by_cases e:(ele q (i:Int)).due=c
  ·rw[show ((ele q (i:Int)).due==(c:Int))=true from by simpa using e,br_true,Av (by omega) (by unfold ln;omega),Av (by omega) (by unfold ln;omega),Av (by omega) (by unfold ln;omega),Aj (by omega) (by omega)]
   rw[show [ele q (i:Int)].filter (fun d=>decide (d.due≠(c:Int)))=[] from by simp[e],List.append_nil]
   show _=some (Stp.next (Pipe.land1 c _ _,_,_))
   unfold Pipe.land1
   rw[if_pos e];rfl
  ·rw[show ((ele q (i:Int)).due==(c:Int))=false from by simpa using e,br_false,Av (by omega) (by unfold ln;omega),Ao (Tu (by rw[List.length_append,List.length_singleton];omega) (by omega)),Aj (by omega) (by omega)]
   rw[show [ele q (i:Int)].filter (fun d=>decide (d.due≠(c:Int)))=[ele q (i:Int)] from by simp[e]]
   show _=some (Stp.next (Pipe.land1 c _ _,_,_))
   unfold Pipe.land1
   rw[if_neg e];rfl) (by unfold Hd;exact Bt (by unfold ln;omega))
 rw[List.take_length] at X
 exact X
structure PlayI (l:Lp) (t:Tgt) (k:Krn) (order:List Int) (s:Sta) (r0:List Int) (N c:Nat) (q:List Due) (r:List Int) (M:List (List Int)):Prop where
 due:(Cp l t k order s N).Dues (fun m σ=>(Cp l t k order s N).cyc m σ<c) c q
 regs:(Cp l t k order s N).Regs r0 r ((c:Int) - 1)
 wds:Words (Rp l) (Mm l s) (fun m σ=>(Cp l t k order s N).In m σ∧(Cp l t k order s N).cyc m σ<c) s.mem M
 ok:MemOk l M
 len:q.length≤16 * c
theorem Af0 (hL:LayP l t k order) {N:Nat} (hN:N≤200) (h1:1≤N):(k.pace:Int)≤(N+k.stages - 1) * k.pace∧(N+k.stages - 1) * k.pace≤240000:=by
 have hp:=hL.may.pace
 have hs:=hL.may.stages
 have m1:=Int.mul_le_mul_of_nonneg_right (show 1≤(N:Int)+k.stages - 1 by omega) (show 0≤k.pace by omega)
 have m2:=Int.mul_le_mul_of_nonneg_right (show (N:Int)+k.stages - 1≤1200 by omega) (show 0≤k.pace by omega)
 omega
theorem Anc (hf:l.Fine) (h:TakesP l t k order) (hs:StaOk l s) {N:Nat} (hN:N≤200) (h1:1≤N) {regs0 r0:List Int} (h0:Ace l t k order s.bef r0) {c:Nat} (hc:(c:Int)<(N+k.stages - 1) * k.pace+6+1) {q:List Due}{r:List Int}{M:List (List Int)} (hI:PlayI l t k order s r0 N c q r M) :
  ∃ q' r' M',Fr t k regs0 N (l.logs,true) (q,r,M,(c:Int))=some (.next (q',r',M',(c:Int)+1))∧PlayI l t k order s r0 N (c+1) q' r' M':=by
 have hL:=h.lay
 have hok:=Aaz (s:=s) (N:=N) hL
 have hlb:=Af0 hL hN h1
 have hp:=hL.may.pace
 have hkn:=hL.may.n
 obtain⟨b1,b2,b3,b4,b5⟩:=hI
 have hR:=b2.land hok b1
 have hQ:=b1.left
 have hfl:(q.filter (fun d=>decide (d.due≠(c:Int)))).length≤16 * c:=Nat.le_trans (List.length_filter_le _ _) b5
 unfold Fr
 simp only
 rw[Aj (by omega) (by omega),Aj (by omega) (by omega),Bu hc,Apj hok b1 (by omega) b2.len,bd_ret,Out.on_go]
 simp only
 by_cases hl:(c:Int)≥(N+k.stages - 1) * k.pace
 ·have hD:∀ m σ,(Cp l t k order s N).In m σ→((Cp l t k order s N).cyc m σ<c↔(Cp l t k order s N).cyc m σ<(c+1:Nat)):=fun m σ hi=>by
   have:=(Qi hL hi).2
   omega
  rw[Bu hl,Aj (by omega) (by omega)]
  refine⟨_,_,_,rfl,⟨?_,?_,?_,b4,by omega⟩⟩
  ·exact hQ.congr hD
  ·rw[show ((c+1:Nat):Int) - 1=c from by omega];exact hR
  ·exact Words.congr b3 fun m σ a x _=>⟨fun hh=>⟨hh.1,(hD m σ hh.1).1 hh.2⟩,fun hh=>⟨hh.1,(hD m σ hh.1).2 hh.2⟩⟩
 ·have hsm:=b4.small hs.loop
  rw[Bt hl,Ao (by omega),Aj (by have:=Int.tdiv_eq_ediv_of_nonneg (show 0≤(c:Int) by omega) (b:=k.pace);have:=Int.ediv_nonneg (show 0≤(c:Int) by omega) (show 0≤k.pace by omega);omega) (by have:=Int.tdiv_eq_ediv_of_nonneg (show 0≤(c:Int) by omega) (b:=k.pace);have:=Int.ediv_le_self (b:=k.pace) (show 0≤(c:Int) by omega);omega),
   V1 hsm.1 hsm.2,bd_ret]
  have hD0:∀ m σ,(Cp l t k order s N).In m σ→((Cp l t k order s N).cyc m σ<c↔Mp l t k order s N c (0:Nat) m σ):=fun m σ hi=>by
   have:=(hL.ord m hi.1).1.1
   unfold Mp;omega
  have hDn:∀ m σ,(Cp l t k order s N).In m σ→(Mp l t k order s N c k.ops.length m σ↔(Cp l t k order s N).cyc m σ<(c+1:Nat)):=fun m σ hi=>by
   have:=(hL.ord m hi.1).1.2
   have:=hL.n
   unfold Mp;omega
  obtain⟨⟨q',M'⟩,e,hI'⟩:=S9 (f:=Fq t k regs0 N (l.logs,true) M c (q.foldl (Pipe.land1 c) r)) (ρ:=Empty) (n:=k.ops.length) (fun (g:List Due×List (List Int)) i=>(g.1,g.2,i)) (fun i g=>OpsI l t k order s N c i g.1 g.2) (fun i g hi hg=>by
    obtain⟨q',M',e,hn⟩:=Amh (regs0:=regs0) hf h hs hN (by omega) h0 hR b3 b4 hi hg
    exact⟨(q',M'),e,hn⟩) (fun g=>by
    unfold Fq
    simp only
    exact Bt (by unfold ln;omega)) (q.filter (fun d=>decide (d.due≠(c:Int))),M) ⟨hQ.congr hD0,Words.congr b3 fun m σ a x _=>⟨fun hh=>⟨hh.1,(hD0 m σ hh.1).1 hh.2⟩,fun hh=>⟨hh.1,(hD0 m σ hh.1).2 hh.2⟩⟩,b4,by omega⟩
  rw[show lp (Fq t k regs0 N (l.logs,true) M c (q.foldl (Pipe.land1 c) r)) (q.filter (fun d=>decide (d.due≠(c:Int))),M,0)=_ from e,bd_ret,Out.on_go,Aj (by omega) (by omega)]
  obtain⟨c1,c2,c3,c4⟩:=hI'
  refine⟨_,_,_,rfl,⟨?_,?_,?_,c3,?_⟩⟩
  ·exact Pipe.Dues.congr c1 hDn
  ·rw[show ((c+1:Nat):Int) - 1=c from by omega];exact hR
  ·exact Words.congr c2 fun m σ a x _=>⟨fun hh=>⟨hh.1,(hDn m σ hh.1).1 hh.2⟩,fun hh=>⟨hh.1,(hDn m σ hh.1).2 hh.2⟩⟩
  ·have c4':q'.length≤16 * c+k.ops.length:=c4
   show q'.length≤_
   omega
structure EndK (l:Lp) (t:Tgt) (k:Krn) (order:List Int) (s:Sta) (r0:List Int) (N:Nat) (r:List Int) (M:List (List Int)):Prop where
 len:(r.length:Int)=t.regs
 zero:N=0→r=r0
 outs:1≤N→∀ a:Nat,a<l.body.length→(a:Int)∈l.outs→ele r ((ele (Ba l t k order).places (a:Int)+N - 1) % t.regs)=Mm l s (N - 1) a
 mem:M=(Ej l s N).2
theorem Anq (hf:l.Fine) (h:TakesP l t k order) (hs:StaOk l s) {N:Nat} (hN:N≤200) {r0:List Int} (hl0:(r0.length:Int)=t.regs) (h0:Ace l t k order s.bef r0):∃ r M,Rb t k r0 s.mem N=some (r,M)∧EndK l t k order s r0 N r M:=by
 have hL:=h.lay
 have hok:=Aaz (s:=s) (N:=N) hL
 have hR:=(I0 hL).regs
 have hrr:(Ba l t k order).regs=t.regs:=rfl
 rw[hrr] at hR
 have hp:=hL.may.pace
 have hsg:=hL.may.stages
 have hsm:=hs.mem.small hs.loop
 unfold Rb
 rw[List.nil_append,Ao (Tu (by omega) (by omega)),V1 hsm.1 hsm.2,bd_ret,Afu hs.loop hs.mem,bd_ret]
 by_cases hz:N=0
 ·subst hz
  refine⟨r0,s.mem,rfl,⟨hl0,fun _=>rfl,fun hh=>by omega,rfl⟩⟩
 have h1:1≤N:=by omega
 have hlb:=Af0 hL hN h1
 rw[show ((N:Int)==0)=false from by simp[hz],br_false,Aj (by omega) (by omega),Aj (by omega) (by omega),Aj (by omega) (by omega)]
 obtain⟨T,hT⟩:=Int.eq_ofNat_of_zero_le (show 0≤(N+k.stages - 1) * k.pace+6+1 by omega)
 have hinit:PlayI l t k order s r0 N 0 [] r0 s.mem:=by
  refine⟨⟨fun d hd=>(by cases hd),fun m σ hi hd _=>?_⟩,⟨hl0,fun m σ hi hd _=>?_,fun _ _ _ _=>rfl⟩,fun a x=>.inr ⟨fun m σ hd=>?_,rfl⟩,hs.mem,by simp⟩
  ·have:=(Qi hL hi).1;omega
  ·have:=(Qi hL hi).1;have:=Pipe.cyc_due hok hi;omega
  ·have:=(Qi hL hd.1).1;have:=hd.2;omega
 obtain⟨⟨q,r,M⟩,e,hI⟩:=S9 (f:=Fr t k r0 N (l.logs,true)) (ρ:=Empty) (n:=T) (fun (g:List Due×List Int×List (List Int)) i=>(g.1,g.2.1,g.2.2,i)) (fun c g=>PlayI l t k order s r0 N c g.1 g.2.1 g.2.2) (fun c g hc hg=>by
   obtain⟨q',r',M',e,hn⟩:=Anc (regs0:=r0) hf h hs hN h1 h0 (by omega) hg
   exact⟨(q',r',M'),e,hn⟩) (fun g=>by
   unfold Fr
   simp only
   rw[Aj (by omega) (by omega),Aj (by omega) (by omega)]
   exact Bt (by omega)) ([],r0,s.mem) hinit
 rw[show lp (Fr t k r0 N (l.logs,true)) ([],r0,s.mem,0)=_ from e,bd_ret,Out.on_go]
 have hI:PlayI l t k order s r0 N T q r M:=hI
 obtain⟨b1,b2,b3,b4,b5⟩:=hI
 have hdl:∀ m σ,(Cp l t k order s N).In m σ→(Cp l t k order s N).due m σ≤(T:Int) - 1∧(Cp l t k order s N).cyc m σ<T:=fun m σ hi=>by
  have hc:=(Qi hL hi).2
  obtain⟨y1,y2,_⟩:=Qw (t:=t) (k:=k) (order:=order) hi.1
  have hw:=Aau hL.tgt (A8 k order m).op
  have:(Cp l t k order s N).due m σ=(Cp l t k order s N).cyc m σ+Cn t (A8 k order m).op:=by
   show ele (Ba l t k order).ready (m:Int)+σ * k.pace=ele (Ba l t k order).time (m:Int)+σ * k.pace+_
   rw[y2,←y1];omega
  omega
 refine⟨r,M,rfl,⟨b2.len,fun hh=>absurd hh hz,fun _ a ha hout=>?_,?_⟩⟩
 ·have hin:(Cp l t k order s N).In a (N - 1):=⟨ha,by show N - 1<N;omega⟩
  have hreg:∀ m' σ':Nat,(Cp l t k order s N).reg m' σ'=(ele (Ba l t k order).places (m':Int)+σ') % t.regs:=fun _ _=>rfl
  have hdue:∀ m' σ':Nat,(Cp l t k order s N).due m' σ'=ele (Ba l t k order).ready (m':Int)+σ' * k.pace:=fun _ _=>rfl
  have:=b2.put a (N - 1) hin (hdl _ _ hin).1 fun m' σ' hi d1 d2 d3=>by
   by_cases hne:m'=a∧σ'=N - 1
   ·exact hne
   ·exfalso
    have hσ':σ'<N:=hi.2
    rw[hdue,hdue] at d1
    rw[hreg,hreg] at d3
    have hjp:((σ':Int) - ((N - 1:Nat):Int)) * k.pace=σ' * k.pace - ((N - 1:Nat):Int) * k.pace:=Int.sub_mul ..
    refine h.apart a m' ha hi.1 ((σ':Int) - ((N - 1:Nat):Int)) (by omega) ?_ (.inr ⟨by omega,?_,hout⟩)
    ·have e:=Int.emod_eq_emod_iff_emod_sub_eq_zero.1 d3
     rw[show ele (Ba l t k order).places (m':Int)+((σ':Int) - ((N - 1:Nat):Int)) - ele (Ba l t k order).places (a:Int)=ele (Ba l t k order).places (m':Int)+σ' - (ele (Ba l t k order).places (a:Int)+((N - 1:Nat):Int)) from by omega]
     exact e
    ·show _≤_+((σ':Int) - ((N - 1:Nat):Int)) * k.pace
     omega
  rw[hreg] at this
  rw[show ele (Ba l t k order).places (a:Int)+(N:Int) - 1=ele (Ba l t k order).places (a:Int)+((N - 1:Nat):Int) from by omega]
  exact this
 ·have hq:=Zd hf hs N hN 0 (by omega)
  have hrun:=R5 hf hs N (by omega)
  have hsame:∀ a x,wd M a x=wd (Vu l s N 0) a x:=fun a x=>Words.same b3 hq fun m σ hh=>by
   constructor
   ·rintro ⟨hi,_⟩
    have:σ<N:=hi.2
    exact⟨hi.1,by unfold Nd;omega⟩
   ·rintro ⟨hm,hl⟩
    have hi:(Cp l t k order s N).In m σ:=⟨hm,by show σ<N;unfold Nd at hl;omega⟩
    exact⟨hi,(hdl m σ hi).2⟩
  have hM2:=hrun.2.1
  have l1:=b4.len;have l2:=hM2.len
  refine W5 (by omega) fun i hi=>?_
  have r1:=b4.row i hi;have r2:=hM2.row i (by omega)
  rw[show M.getD i []=ele M (i:Int) from rfl] at r1
  rw[show (Ej l s N).2.getD i []=ele (Ej l s N).2 (i:Int) from rfl] at r2
  exact W5 (by omega) fun j hj=>hsame i j
theorem Af9 {y:LayD} (hy:y.Ok) {b:List (List Int)}{s:Nat}{R:List Int} (hR:(R.length:Int)=y.regs):∀ q,(∀ q',q'<q→Iy y s q'∉frA y s q')→(∀ q':Nat,q'<q→ele (Yb y b s R q) (Iy y s q')=ele (ele b (s:Int)) (q':Int))∧∀ x,0≤x→(∀ q':Nat,q'<q→Iy y s q'≠x)→ele (Yb y b s R q) x=ele R x
 | 0,_=>⟨fun q' h=>absurd h (by omega),fun x _ _=>rfl⟩
 | q+1,h=>by
  obtain⟨i1,i2⟩:=Af9 (b:=b) hy hR q fun q' h'=>h q' (by omega)
  have hb:=reg_bd hy (s:Int) q
  have hl:=Tq (b:=b) (y:=y) (s:=s) (R:=R) q
  have hlt:Iy y s q<(Yb y b s R q).length:=by omega
  refine⟨fun q' hq'=>?_,fun x hx hn=>?_⟩
  ·show ele (upd _ _ _) _=_
   by_cases e:q'=q
   ·subst e
    rw[Lq ⟨hb.1,by unfold ln;omega⟩]
   ·have hb':=reg_bd hy (s:Int) q'
    have hne:Iy y s q≠Iy y s q':=fun he=>h q (by omega) (by
     unfold frA
     rw[List.mem_map]
     exact⟨q',List.mem_range.2 (by omega),he.symm⟩)
    rw[Hc (by omega)]
    exact i1 q' (by omega)
  ·show ele (upd _ _ _) _=_
   have:=hn q (by omega)
   rw[Hc (by omega)]
   exact i2 x hx fun q' hq'=>hn q' (by omega)
theorem Af8 {y:LayD} (hy:y.Ok) {b:List (List Int)}:∀ n:Nat,(∀ s:Nat,s<n→∀ q,q<(Lv y.body s).toNat→Iy y s q∉K1 y (Ea s)++frA y s q)→∀ a:Nat,a<n→∀ q:Nat,q<(Lv y.body (a:Int)).toNat→ele (Rz y b y.regs.toNat n) (Iy y a q)=ele (ele b (a:Int)) (q:Int)
 | 0,_,a,ha=>absurd ha (by omega)
 | n+1,h,a,ha=>fun q hq=>by
  have hRg:=hy.regs
  have hl:=Tp (b:=b) (y:=y) (n:=y.regs.toNat) n
  obtain⟨i1,i2⟩:=Af9 (b:=b) (s:=n) (R:=Rz y b y.regs.toNat n) hy (by omega) (Lv y.body n).toNat fun q' hq' hm=>h n (by omega) q' hq' (List.mem_append.2 (.inr hm))
  show ele (Yb _ _ _ _ _) _=_
  by_cases e:a=n
  ·subst e
   exact i1 q hq
  ·have hb:=reg_bd hy (a:Int) q
   rw[i2 _ hb.1 fun q' hq' he=>h n (by omega) q' hq' (List.mem_append.2 (.inl (by
    unfold K1
    rw[List.mem_flatMap]
    refine⟨(a:Int),?_,?_⟩
    ·unfold Ea;rw[List.mem_map];exact⟨a,List.mem_range.2 (by omega),rfl⟩
    ·unfold frA;rw[List.mem_map];exact⟨q,List.mem_range.2 hq,he.symm⟩)))]
   exact Af8 hy n (fun s hs=>h s (by omega)) a (by omega) q hq
theorem Ak3 (h:TakesP l t k order) (b:List (List Int)):Ace l t k order b (Rz (Ba l t k order) b t.regs.toNat l.body.length) :=
 Af8 (I0 h.lay) l.body.length ((Xr _).1 h.firsts)
theorem Ahn (h:TakesP l t k order) (hs:StaOk l s) {N:Nat} (hN:N≤200) {r0 r:List Int}{M:List (List Int)} (he:EndK l t k order s r0 N r M):(List.range l.outs.length).map (R7 l t (Ba l t k order) s.bef r N)=Pv l s N:=by
 unfold Pv
 rw[←Sj l.outs (fun a=>ele (ele (Ej l s N).1 0) a)]
 refine List.map_congr_left fun i hi=>?_
 have hi:=List.mem_range.1 hi
 have ho:=hs.loop.out i hi
 rw[show l.outs.getD i 0=ele l.outs (i:Int) from rfl] at ho
 obtain⟨a,ha⟩:=Int.eq_ofNat_of_zero_le ho.1
 have ha':a<l.body.length:=by omega
 have hmem:(a:Int)∈l.outs:=by rw[←ha];exact Cv hi
 have hh:=Aa4 l s N 0 (by omega)
 rw[show ele (Ej l s N).1 0=(Ej l s N).1.getD 0 [] from rfl,hh]
 unfold R7
 rw[ha]
 by_cases hz:N=0
 ·subst hz
  have hl:=hs.len
  rw[if_pos (by omega),if_neg (by omega),Aju (by omega)];rfl
 ·rw[if_neg (by omega),if_pos (by omega),he.outs (by omega) a ha' hmem]
  rfl
end
section
variable {l : Lp} {t : Tgt} {k : Krn} {order : List Int} {s : Sta}
end
noncomputable def D5 (l:Lp) (t:Tgt) (s:Sta) (turns:Int):Option (Bool) :=
 bd (I2 l s turns) fun x4 =>
 bd (Ef l t) fun x9 =>
 br ((x4.2 != 0) || (decide (turns>40))) (
 some (((x4.2==2) || (x4.2==3)) || (decide (turns>40)))) (
 br (x9.2.2 != 0) (
 ck ((!(x9.2.2==2)&&(x9.2.2==1))=true→IR (5 * (ln l.body))) <|
 some (((x9.2.2==2) || ((x9.2.2==1)&&(decide (t.regs<(5 * (ln l.body))))))&&(decide ((ln l.body)>0)))) (
 bd (Hy l t x9.1 x9.2.1 s.bef) fun x22 =>
 bd (I9 t x9.1 x22.1 s.mem turns) fun x26 =>
 bd (Hx l t x9.1 x9.2.1 s.bef x26.1 turns) fun x30 =>
 br (((ln x9.1.ops) != (ln l.body)) || ((ln l.body)==0)) (
 some false) (
 bdG (((x22.2==0)&&(x26.2.2==0))&&(x30.2==0)) (Hj x30.1 x4.1.outs) fun x37 =>
 bdG ((((x22.2==0)&&(x26.2.2==0))&&(x30.2==0))&&x37) (Lm x26.2.1 x4.1.mem) fun x40 =>
 some (((((x22.2==0)&&(x26.2.2==0))&&(x30.2==0))&&x37)&&x40))))
theorem Alm (l:Lp) (s:Sta) (t:Int) (hf:l.Fine) (hb:RowsOk s.bef) (hm:RowsOk s.mem) (h:¬FitsP l s):I2 l s t=some (⟨[],[]⟩,2):=by
 unfold I2
 rw[Ael l s hf hb hm,bd_ret,B0 h];rfl
theorem All (l:Lp) (s:Sta) (t:Int) (hf:l.Fine) (hb:RowsOk s.bef) (hm:RowsOk s.mem) (h:FitsP l s) (ht:t<0∨t>200):I2 l s t=some (⟨[],[]⟩,3):=by
 unfold I2
 rw[Ael l s hf hb hm,bd_ret,Cc h,Bool.not_true,br_false,show (decide (t<0) || decide (t>200))=true from by simpa using ht];rfl
theorem Adc {y:LayD}{b:List (List Int)} (hb:∀ r∈b,∀ x∈r,InR x) {s:Nat}{R:List Int} (hR:∀ v∈R,InR v):∀ q:Nat,∀ v∈Yb y b s R q,InR v
 | 0=>hR
 | q+1=>fun v hv=>by
  rcases Ac0 hv with rfl | hv
  ·exact Qh hb _ _
  ·exact Adc hb hR q v hv
theorem Adb {y:LayD}{b:List (List Int)} (hb:∀ r∈b,∀ x∈r,InR x) {m:Nat}:∀ n:Nat,∀ v∈Rz y b m n,InR v
 | 0=>fun v hv=>by
  obtain rfl:=List.eq_of_mem_replicate hv
  constructor <;> omega
 | n+1=>Adc hb (Adb hb n) _
theorem Ae0 {l:Lp} (hl:LoopOk l) {M:List (List Int)} (hM:MemOk l M):Afo M∧Aca M=l.logs:=by
 have hml:=hM.len
 have key:∀ i:Nat,i<M.length→∃ L:Nat,L≤5∧ele l.logs (i:Int)=L∧lgN (ele M (i:Int)).length=L:=fun i hi=>by
  have hlg:=hl.log i (by omega)
  have hr:=hM.row i hi
  rw[show l.logs.getD i 0=ele l.logs (i:Int) from rfl] at hlg hr
  rw[show M.getD i []=ele M (i:Int) from rfl] at hr
  obtain⟨L,hL⟩:=Int.eq_ofNat_of_zero_le hlg.1
  rw[hL,Int.toNat_natCast] at hr
  have hp:=Ait (show L≤5 by omega)
  exact⟨L,by omega,hL,(Afy (by omega)).2 (by omega)⟩
 refine⟨fun i hi=>?_,W5 (by unfold Aca;simp;omega) fun i hi=>?_⟩
 ·obtain⟨L,h5,_,e⟩:=key i hi;omega
 ·have hi:i<M.length:=by unfold Aca at hi;simpa using hi
  obtain⟨L,h5,e1,e2⟩:=key i hi
  rw[show ele (Aca M) (i:Int)=(lgN (ele M (i:Int)).length:Int) from Fa hi,e1,e2]
theorem X3 (l:Lp) (t:Tgt) (s:Sta) (turns:Int) {w:World}{v1 v2 v3:Value} (hL:LpRep w v1 v2 v3 l) (hb:RowsOk s.bef) (hm:RowsOk s.mem) (ra:-9223372036854775808≤turns∧turns≤9223372036854775807):D5 l t s turns=some true:=by
 have hf:=hL.fine
 unfold D5
 have hB:∃ x,Ef l t=some x:=by
  by_cases h:LoopOk l∧Cu t=true
  ·rcases Agp hf h.1 h.2 with ⟨p,v,e,_⟩ | ⟨e,_⟩ <;> exact⟨_,e⟩
  ·exact⟨_,Z3 hf h⟩
 by_cases c2:FitsP l s
 ·by_cases c1:turns<0∨turns>200
  ·obtain⟨x,e⟩:=hB
   rw[All l s turns hf hb hm c2 c1,bd_ret,e,bd_ret]
   rfl
  ·obtain⟨N,rfl⟩:=Int.eq_ofNat_of_zero_le (show 0≤turns by omega)
   have hs:=c2.ok hb hm
   rw[Run_s hf hs (by rw[Ael l s hf hb hm,Cc c2]) N (by omega),bd_ret]
   by_cases c3:(N:Int)>40
   ·obtain⟨x,e⟩:=hB
    rw[e,bd_ret,decide_eq_true c3,Bool.or_true,br_true,Bool.or_true]
   have hln:1≤l.body.length∧l.body.length≤16:=⟨c2.1.2.1,c2.1.2.2.1⟩
   by_cases h:LoopOk l∧Cu t=true
   ·rcases Agp hf h.1 h.2 with ⟨p,v,e,hBt⟩ | ⟨e,hr⟩
    ·obtain⟨b1,b2,b3⟩:=hBt
     have hk:Vc l (H6 l t p v):=Zj hf
     have ho:(Ea l.body.length).length≤9223372036854775807:=by rw[Kq];omega
     have hLy:=b3.lay
     have hbe:Ps l s.bef:=⟨hs.len,fun i hi=>hs.bef i hi⟩
     have hbl:s.bef.length≤9223372036854775807:=hb.len
     have hR:=(I0 hLy).regs
     have hrr:(Ba l t (H6 l t p v) (Ea l.body.length)).regs=t.regs:=rfl
     have hlo:=Ae0 hs.loop hs.mem
     have hsmall:=hs.mem.small hs.loop
     have hel:((Rz (Ba l t (H6 l t p v) (Ea l.body.length)) s.bef t.regs.toNat l.body.length).length:Int)=t.regs:=by rw[Tp];omega
     obtain⟨r,M,e5,hE⟩:=Anq hf b3 hs (show N≤200 by omega) hel (Ak3 b3 s.bef)
     obtain⟨r',M',k1,k2,k3,k4,_⟩:=Ag9 (r:=Rz (Ba l t (H6 l t p v) (Ea l.body.length)) s.bef t.regs.toNat l.body.length) (M:=s.mem) hLy.may (fun i hi=>((hk i hi).rbody (Eh (ele (H6 l t p v).ops (i:Int))) (List.mem_cons_of_mem _ (List.mem_cons_self ..))).2.2.2.2.2.2.2.2) (show N≤200 by omega) ⟨hel,Adb hb.rng _⟩ ⟨hs.mem.len,hs.mem.row,hs.mem.rng⟩
      (by rw[Ahe (by omega) hm.lens,Cc hlo.1,hlo.2];rfl) (Afu hs.loop hs.mem) (by rw[Ajc hk,Cc hLy.may])
     have hrM:(r',M')=(r,M):=Option.some.inj (k2.symm.trans e5)
     simp only[Prod.mk.injEq] at hrM
     obtain⟨rfl,rfl⟩:=hrM
     have hrun:=(R5 hf hs N (by omega)).2.1
     have hsm:=hrun.small hs.loop
     have hol:=Qc hs.loop
     have hov:(Pv l s N).length≤9223372036854775806:=by unfold Pv;rw[List.length_map];omega
     have hout:=Ahn b3 hs (show N≤200 by omega) hE
     rw[e,bd_ret,decide_eq_false c3,show ((((⟨Pv l s N,(Ej l s N).2⟩:Rst),(0:Int)):Rst×Int).2 != 0)=false from rfl,Bool.or_self,br_false]
     rw[br_false]
     show (bd (Hy l t (H6 l t p v) (Ea l.body.length) s.bef) _)=_
     rw[Am5 hf hk ho hbl,bd_ret,Cc ⟨b3,hbe⟩,if_pos rfl]
     show (bd (I9 t (H6 l t p v) (Rz (Ba l t (H6 l t p v) (Ea l.body.length)) s.bef t.regs.toNat l.body.length) s.mem N) _)=_
     rw[k1,bd_ret]
     show (bd (Hx l t (H6 l t p v) (Ea l.body.length) s.bef r' N) _)=_
     rw[Ams hf hk ho hbl,bd_ret,Cc ⟨b3,hbe,k3.len⟩,if_pos rfl,show (decide ((N:Int)<0) || decide ((N:Int)>200))=false from by rw[Bool.or_eq_false_iff,decide_eq_false_iff_not,decide_eq_false_iff_not];omega,if_neg (by decide),hout]
     have hn:=hLy.n
     rw[show ((ln (H6 l t p v).ops != ln l.body) || (ln l.body==0))=false from by
      unfold ln;rw[Bool.or_eq_false_iff,bne_eq_false_iff_eq,beq_eq_false_iff_ne];omega,br_false]
     show (bdG true (Hj (Pv l s N) (Pv l s N)) _)=_
     rw[bdG_t,Z1 _ _ hov,bd_ret,Cc rfl]
     show (bdG true (Lm M' (Ej l s N).2) _)=_
     rw[bdG_t,hE.mem,Ank _ _ (show (Ej l s N).2.length≤9223372036854775806 by omega) (fun q hq=>by have:=hsm.2 q hq;omega),bd_ret,Cc rfl]
     rfl
    ·rw[e,bd_ret,decide_eq_false c3,show ((((⟨Pv l s N,(Ej l s N).2⟩:Rst),(0:Int)):Rst×Int).2 != 0)=false from rfl,Bool.or_self,br_false]
     rw[show (((⟨0,0,[]⟩,[],(1:Int)):Krn×List Int×Int).2.2 != 0)=true from rfl,br_true,Fb (fun _=>⟨by unfold ln;omega,by unfold ln;omega⟩),decide_eq_true (show t.regs<5 * ln l.body from hr),decide_eq_true (show ln l.body>0 by unfold ln;omega)]
     rfl
   ·rw[Z3 hf h,bd_ret,decide_eq_false c3,show ((((⟨Pv l s N,(Ej l s N).2⟩:Rst),(0:Int)):Rst×Int).2 != 0)=false from rfl,Bool.or_self,br_false]
    rw[show (((⟨0,0,[]⟩,[],(2:Int)):Krn×List Int×Int).2.2 != 0)=true from rfl,br_true,Fb (fun hh=>by cases hh),decide_eq_true (show ln l.body>0 by unfold ln;omega)]
    rfl
 ·obtain⟨x,e⟩:=hB
  rw[Alm l s turns hf hb hm c2,bd_ret,e,bd_ret]
  rfl
end Go.Rd
end
section
namespace Go.Rd
open Go
def Et (p:Value×Opr×Int×Int):List Value:=[p.1]
theorem Zp:∀ p:Value×Opr×Int×Int,(Et p).length=1:=fun _=>rfl
def ClosK (fn:Nat) (pm:Value) (k:World) (B:List (Value×Opr×Int×Int)):Prop:=∀ p∈B,∃ pa po pt,p.1=.func (.func fn) #[] #[.pointer (some pa),pm,.pointer (some po),.pointer (some pt)]∧CellsAt k pa [Cg p.2.2.2] 0∧CellsAt k po p.2.1.cells 0∧CellsAt k pt [Cg p.2.2.1] 0
theorem ClosK.nil {fn:Nat}{pm:Value}{k:World}:ClosK fn pm k []:=fun p hp=>by cases hp
theorem ClosK.le {fn:Nat}{pm:Value}{k k':World}{B:List (Value×Opr×Int×Int)} (h:ClosK fn pm k B) (hl:Le k k'):ClosK fn pm k' B:=fun p hp=>by
 obtain⟨a,b,c,h0,h1,h2,h3⟩:=h p hp
 exact⟨a,b,c,h0,h1.mono hl,h2.mono hl,h3.mono hl⟩
theorem ClosK.snoc {fn:Nat}{pm:Value}{k:World}{B:List (Value×Opr×Int×Int)}{pa po pt:Addr}{o:Opr}{t a:Int} (h:ClosK fn pm k B) (h1:CellsAt k pa [Cg a] 0) (h2:CellsAt k po o.cells 0) (h3:CellsAt k pt [Cg t] 0) :
  ClosK fn pm k (B++[(.func (.func fn) #[] #[.pointer (some pa),pm,.pointer (some po),.pointer (some pt)],o,t,a)]):=fun p hp=>by
 rcases List.mem_append.1 hp with hp | hp
 ·exact h p hp
 ·simp at hp;subst hp;exact⟨pa,po,pt,rfl,h1,h2,h3⟩
theorem ClosK.ix {fn:Nat}{pm:Value}{k:World}{B:List (Value×Opr×Int×Int)}{xs:List (Opr×Int×Int)} (h:ClosK fn pm k B) (hB:B.map (·.2)=xs) {i:Int} (hi:IX i (ln xs)) :
  ∃ pa po pt,(∀ (w:World) (v:Value),Arr w v 1 (B.map Et)→∀ p,H1 v i 1 p→CellsAt w p [.func (.func fn) #[] #[.pointer (some pa),pm,.pointer (some po),.pointer (some pt)]] 0)
   ∧ CellsAt k pa [Cg (ele xs i).2.2] 0∧CellsAt k po (ele xs i).1.cells 0∧CellsAt k pt [Cg (ele xs i).2.1] 0:=by
 subst hB
 have hl:i.toNat<B.length:=by have:=hi.2;unfold ln at this;rw[List.length_map] at this;have:=hi.1;omega
 obtain⟨pa,po,pt,h0,h1,h2,h3⟩:=h B[i.toNat] (List.getElem_mem hl)
 have e:ele (B.map (·.2)) i=B[i.toNat].2:=by unfold ele;simp[List.getD_eq_getElem?_getD,List.getElem?_eq_getElem hl]
 refine⟨pa,po,pt,fun w v ha p hp=>?_,by rw[e];exact h1,by rw[e];exact h2,by rw[e];exact h3⟩
 have:=ha.row i.toNat (Et B[i.toNat]) p (by simp[List.getElem?_eq_getElem hl]) (by rwa [Int.toNat_of_nonneg hi.1])
 rw[←h0];exact this
theorem Ald {B:List (Value×Opr×Int×Int)}{xs:List (Opr×Int×Int)}{u:Value}{r:Opr×Int×Int} (h:B.map (·.2)=xs):(B++[(u,r)]).map (·.2)=xs++[r]:=by rw[List.map_append,h];rfl
theorem And {u:Value}{r:Opr×Int×Int} (h:u.oneCell'=true):∀ p∈[(u,r)],∀ c∈Et p,c.oneCell'=true:=fun p hp c hc=>by
 simp at hp;subst hp
 simp[Et] at hc;subst hc
 exact h
theorem AL.c1 {B:List (Value×Opr×Int×Int)}{xs:List (Opr×Int×Int)}{b:Nat} (h:B.map (·.2)=xs) (ha:AL xs.length b):B.length≤maxLen:=by subst h;have:=ha.1;rwa [List.length_map] at this
theorem AL.c2 {B:List (Value×Opr×Int×Int)}{xs:List (Opr×Int×Int)}{b:Nat} (h:B.map (·.2)=xs) (ha:AL xs.length b):B.length * b≤140737488355328:=by subst h;have:=ha.2;rwa [List.length_map] at this
theorem Akc {v:Value}{B:List (Value×Opr×Int×Int)}{xs:List (Opr×Int×Int)} (h:B.map (·.2)=xs) (hs:SliceLen v B.length):SliceLen v xs.length:=by subst h;rwa [List.length_map]
end Go.Rd
end
section
namespace Go.Proofs.Ytaimbkndebaaiac
open Go.Rd
namespace TNum
theorem Aof:Go.Rd.Enters Try.prog 114:=eT Try.func114
theorem Aoe:Go.Rd.Enters Try.prog 115:=eT Try.func115
end TNum
open TNum
theorem Qs {n_:Int}{r:Bool} (w:World) (hm:Is n_=some r) :Calls Try.prog 114 #[.int .i64 n_] w (fun e w'=>e=.returned (.bool r)∧Grow w w'):=by
 unfold Is at hm
 have hk:=Base.rfl (w:=w)
 refine Ak (n:=9) (args:=[i_ n_]) Try.func114 Z Z (nl Z) ?_ (An hk (Own.start w))
 refine sr (wa Z (ns (wm Z (wq Z (QV.geq Z Z Z Z) (wm Z (gp Z (fun hG=>QV.move Z Z) (gp Z (fun hG=>QV.leq Z hG Z Z) (wq Z (Az Z Z Z (fun h=>h)) (wa Z ?_)))))))))
 refine nt (WC.ret ?_)
 obtain rfl:=(Ae hm).symm
 exact Ar Z Z fun w hw=>kg hw
theorem Qm {step plus turn log r:Int} (w:World) (hm:Ih step plus turn log=some r) :Calls Try.prog 84 #[.int .i64 step,.int .i64 plus,.int .i64 turn,.int .i64 log] w (fun e w'=>e=.returned (.int .i64 r)∧Grow w w'):=by
 unfold Ih at hm
 have hk:=Base.rfl (w:=w)
 refine Ak (n:=45) (args:=[i_ step,i_ plus,i_ turn,i_ log]) Try.func84 Z Z (nl Z) ?_ (An hk (Own.start w))
 refine sr (wa Z (ns (wa Z (nt (WC.seq (sr (wm Z (wq Z (QV.lss Z Z Z Z) (wm Z (gn Z (fun hG=>QV.move Z Z) (gn Z (fun hG=>QV.gtr Z hG Z Z) ?_)))))))))))
 refine wq Z (A2 Z Z Z (fun h=>Dv h)) (wm Z (gn Z (fun hG=>QV.move Z Z) (gn Z (fun hG=>QV.move Z Z) ?_)))
 obtain⟨x1,hx2,hm3⟩:=Ce hm;clear hm
 refine gn Z (fun hG=>Jr Aof Z hG (EvAll.cons Z hG eN) (fun w hw=>have h:=Qs w (hx2 hG) ;h)) (gn Z (fun hG=>QV.not Z hG) (wq Z (A2 Z Z Z (fun h=>Dv h)) (wm Z (gn Z (fun hG=>QV.move Z Z) (gn Z (fun hG=>QV.move Z Z) ?_)))))
 obtain⟨x4,hx5,hm6⟩:=Ce hm3;clear hm3
 refine gn Z (fun hG=>Jr Aof Z hG (EvAll.cons Z hG eN) (fun w hw=>have h:=Qs w (hx5 hG) ;h)) (gn Z (fun hG=>QV.not Z hG) (wq Z (A2 Z Z Z (fun h=>Dv h)) (wm Z (gn Z (fun hG=>QV.move Z Z) (gn Z (fun hG=>QV.lss Z hG Z Z) (wq Z (A2 Z Z Z (fun h=>Dv h)) (wm Z (gn Z (fun hG=>QV.move Z Z) (gn Z (fun hG=>QV.gtr Z hG Z Z) ?_)))))))))
 refine wq Z (A2 Z Z Z (fun h=>Dv h)) (nt ?_)
 refine wc Z hm6 (fun h7 hm8=>?_) (fun h7 hm9=>?_) <;> clear hm6
 ·skip
  refine sr (wa Z (nt (WC.ret (tr ?_))))
  obtain rfl:=(Ae hm8).symm
  exact Ar Z Z fun w hw=>kg hw
 refine sk (WQ.then (sr (wm Z (wm Z ?_))))
 obtain⟨c10,c12,c14,c16,hm17⟩:=cs4 hm9;clear hm9
 refine wq Z (QV.mul Z Z Z Z c10) (wm Z (wq Z (QV.add Z Z Z Z c12) (wm Z (wq Z (QV.shlD Z Z Z Z c14) (wq Z (QV.sub Z Z Z Z c16) (wq Z (V8 Z Z Z Z) (wa Z (nt (WC.ret ?_)))))))))
 obtain rfl:=(Ae hm17).symm
 exact Ar Z Z fun w hw=>kg hw
theorem Vh {is:Bool}{r:Int} (w:World) (hm:Lx is=some r) :Calls Try.prog 115 #[.bool is] w (fun e w'=>e=.returned (.int .i64 r)∧Grow w w'):=by
 unfold Lx at hm
 have hk:=Base.rfl (w:=w)
 refine Ak (n:=4) (args:=[.bool is]) Try.func115 Z Z (nl Z) ?_ (An hk (Own.start w))
 refine sr (wa Z (nt (WC.seq (sr (wm Z (nt ?_))))))
 refine wc Z hm (fun h1 hm2=>?_) (fun h1 hm3=>?_) <;> clear hm
 ·skip
  refine sr (wa Z (nt (WC.ret (tr ?_))))
  obtain rfl:=(Ae hm2).symm
  exact Ar Z Z fun w hw=>kg hw
 refine sk (WQ.then (sr (wa Z (nt (WC.ret ?_)))))
 obtain rfl:=(Ae hm3).symm
 exact Ar Z Z fun w hw=>kg hw
theorem Acx {op a b r:Int} (w:World) (hm:N9 op a b=some r) :Calls Try.prog 86 #[.int .i64 op,.int .i64 a,.int .i64 b] w (fun e w'=>e=.returned (.int .i64 r)∧Grow w w'):=by
 unfold N9 at hm
 have hk:=Base.rfl (w:=w)
 refine Ak (n:=53) (args:=[i_ op,i_ a,i_ b]) Try.func86 Z Z (nl Z) ?_ (An hk (Own.start w))
 refine sr (wa Z (ns (wa Z (nt (WC.seq (sr (wm Z (nt (WC.block (sr (wq Z (QV.eql Z Z Z Z) (wa Z (nt ?_)))))))))))))
 refine wc Z hm (fun h1 hm2=>?_) (fun h1 hm3=>?_) <;> clear hm
 ·skip
  refine sr (wm Z (wm Z (wq Z (Agm Z Z Z Z) (wa Z (nt (WC.ret (kr (tr ?_))))))))
  obtain rfl:=(Ae hm2).symm
  exact Ar Z Z fun w hw=>kg hw
 refine sr (wq Z (QV.eql Z Z Z Z) (wa Z (nt ?_)))
 refine wc Z hm3 (fun h4 hm5=>?_) (fun h4 hm6=>?_) <;> clear hm3
 ·skip
  refine sr (wm Z (wm Z (wq Z (Abl Z Z Z Z) (wa Z (nt (WC.ret (kr (tr ?_))))))))
  obtain rfl:=(Ae hm5).symm
  exact Ar Z Z fun w hw=>kg hw
 refine sr (wq Z (QV.eql Z Z Z Z) (wa Z (nt ?_)))
 refine wc Z hm6 (fun h7 hm8=>?_) (fun h7 hm9=>?_) <;> clear hm6
 ·skip
  refine sr (wm Z (wm Z (wq Z (Agl Z Z Z Z) (wa Z (nt (WC.ret (kr (tr ?_))))))))
  obtain rfl:=(Ae hm8).symm
  exact Ar Z Z fun w hw=>kg hw
 refine sr (wq Z (QV.eql Z Z Z Z) (wa Z (nt ?_)))
 refine wc Z hm9 (fun h10 hm11=>?_) (fun h10 hm12=>?_) <;> clear hm9
 ·skip
  refine sr (wm Z (wm Z (wq Z (V8 Z Z Z Z) (wa Z (nt (WC.ret (kr (tr ?_))))))))
  obtain rfl:=(Ae hm11).symm
  exact Ar Z Z fun w hw=>kg hw
 refine sr (wq Z (QV.eql Z Z Z Z) (wa Z (nt ?_)))
 refine wc Z hm12 (fun h13 hm14=>?_) (fun h13 hm15=>?_) <;> clear hm12
 ·skip
  refine sr (wm Z (wm Z (wq Z (Apy Z Z Z Z) (wa Z (nt (WC.ret (kr (tr ?_))))))))
  obtain rfl:=(Ae hm14).symm
  exact Ar Z Z fun w hw=>kg hw
 refine sr (wq Z (QV.eql Z Z Z Z) (wa Z (nt ?_)))
 refine wc Z hm15 (fun h16 hm17=>?_) (fun h16 hm18=>?_) <;> clear hm15
 ·skip
  refine sr (wm Z (wm Z (wq Z (Anm Z Z Z Z) (wa Z (nt (WC.ret (kr (tr ?_))))))))
  obtain rfl:=(Ae hm17).symm
  exact Ar Z Z fun w hw=>kg hw
 refine sr (wq Z (QV.eql Z Z Z Z) (wa Z (nt ?_)))
 refine wc Z hm18 (fun h19 hm20=>?_) (fun h19 hm24=>?_) <;> clear hm18
 ·skip
  refine sr (wm Z (wm Z (wm Z (wq Z (QV.lss Z Z Z Z) ?_))))
  obtain⟨x21,hx22,hm23⟩:=Ag hm20;clear hm20
  refine wq Z (Jr Aoe Z Z (ec Z eN) (fun w hw=>have h:=Vh w hx22 ;h)) (wa Z (nt (WC.ret (kr (tr ?_)))))
  obtain rfl:=(Ae hm23).symm
  exact Ar Z Z fun w hw=>kg hw
 refine sr (wq Z (QV.eql Z Z Z Z) (wa Z (nt ?_)))
 refine wc Z hm24 (fun h25 hm26=>?_) (fun h25 hm30=>?_) <;> clear hm24
 ·skip
  refine sr (wm Z (wm Z (wm Z (wq Z (QV.eql Z Z Z Z) ?_))))
  obtain⟨x27,hx28,hm29⟩:=Ag hm26;clear hm26
  refine wq Z (Jr Aoe Z Z (ec Z eN) (fun w hw=>have h:=Vh w hx28 ;h)) (wa Z (nt (WC.ret (kr (tr ?_)))))
  obtain rfl:=(Ae hm29).symm
  exact Ar Z Z fun w hw=>kg hw
 refine sk (WQ.block (WQ.then (sr (wa Z (nt (WC.ret ?_))))))
 obtain rfl:=(Ae hm30).symm
 exact Ar Z Z fun w hw=>kg hw
theorem Fd {op r:Int} (w:World) (hm:Dg op=some r) :Calls Try.prog 89 #[.int .i64 op] w (fun e w'=>e=.returned (.int .i64 r)∧Grow w w'):=by
 unfold Dg at hm
 have hk:=Base.rfl (w:=w)
 refine Ak (n:=9) (args:=[i_ op]) Try.func89 Z Z (nl Z) ?_ (An hk (Own.start w))
 refine sr (wa Z (nt (WC.seq (sr (wm Z (nt (WC.block (WC.seq (sr (wq Z (QV.eql Z Z Z Z) (wa Z (nt ?_))))))))))))
 refine wc Z hm (fun h1 hm2=>?_) (fun h1 hm9=>?_) <;> clear hm
 ·skip
  refine sk (WQ.then ?_)
  refine wc Z hm2 (fun h3 hm4=>?_) (fun h3 hm5=>?_) <;> clear hm2
  ·skip
   refine sr (wa Z (nt (WC.ret (kr (tr ?_)))))
   obtain rfl:=(Ae hm4).symm
   exact Ar Z Z fun w hw=>kg hw
  refine sr (wq Z (QV.eql Z Z Z Z) (wa Z (nt ?_)))
  refine wc Z hm5 (fun h6 hm7=>?_) (fun h6 hm8=>?_) <;> clear hm5
  ·skip
   refine sr (wa Z (nt (WC.ret (kr (tr ?_)))))
   obtain rfl:=(Ae hm7).symm
   exact Ar Z Z fun w hw=>kg hw
  refine sk (WQ.block (WQ.then (sr (wa Z (nt (WC.ret ?_))))))
  obtain rfl:=(Ae hm8).symm
  exact Ar Z Z fun w hw=>kg hw
 refine WC.region (wq Z (QV.eql Z Z Z Z) (wa Z (nt ?_)))
 refine wc Z hm9 (fun h10 hm11=>?_) (fun h10 hm12=>?_) <;> clear hm9
 ·skip
  refine sr (wa Z (nt (WC.ret (kr (tr ?_)))))
  obtain rfl:=(Ae hm11).symm
  exact Ar Z Z fun w hw=>kg hw
 refine sr (wq Z (QV.eql Z Z Z Z) (wa Z (nt ?_)))
 refine wc Z hm12 (fun h13 hm14=>?_) (fun h13 hm15=>?_) <;> clear hm12
 ·skip
  refine sr (wa Z (nt (WC.ret (kr (tr ?_)))))
  obtain rfl:=(Ae hm14).symm
  exact Ar Z Z fun w hw=>kg hw
 refine sk (WQ.block (WQ.then (sr (wa Z (nt (WC.ret ?_))))))
 obtain rfl:=(Ae hm15).symm
 exact Ar Z Z fun w hw=>kg hw
end Go.Proofs.Ytaimbkndebaaiac
end
section
namespace Go.Proofs.Ytaimbkndebaaiac
open Go.Rd
open TNum
namespace TLoop
theorem Fh:N4 Try.prog 25 3:=⟨_,Try.underlying25,rfl,by kernel_rfl⟩
theorem Gk:N4 Try.prog 28 7:=⟨_,Try.underlying28,rfl,by kernel_rfl⟩
theorem K6:N4 Try.prog 79 2:=⟨_,Try.underlying79,rfl,by kernel_rfl⟩
theorem Kk:N4 Try.prog 81 9:=⟨_,Try.underlying81,rfl,by kernel_rfl⟩
theorem Pq:Aen Try.prog 26 3 1:=⟨_,Try.underlying26,by kernel_rfl⟩
theorem en105:Go.Rd.Enters Try.prog 105:=eT Try.func105
theorem Aim:Go.Rd.Enters Try.prog 38:=eT Try.func38
theorem Alu:Go.Rd.Enters Try.prog 39:=eT Try.func39
theorem Ad7:Go.Rd.Enters Try.prog 66:=eT Try.func66
theorem Yd:Go.Rd.Enters Try.prog 67:=eT Try.func67
theorem en68:Go.Rd.Enters Try.prog 68:=eT Try.func68
theorem Yc:Go.Rd.Enters Try.prog 89:=eT Try.func89
theorem Ad5:EqT Try.prog 79 2:=⟨by kernel_rfl,⟨_,Try.underlying79⟩,by kernel_rfl,by kernel_rfl⟩
theorem O1:Bw Try.prog 25 0 0:=fT 0 Try.underlying25
theorem Co:Bw Try.prog 25 1 1:=fT 0 Try.underlying25
theorem Aal:Bw Try.prog 25 2 2:=fT 0 Try.underlying25
theorem Se:Bw Try.prog 28 0 0:=fT 2 Try.underlying28
theorem P6:Bw Try.prog 28 1 3:=fT 2 Try.underlying28
theorem H8:Bw Try.prog 28 2 6:=fT 0 Try.underlying28
theorem Wp:Bw Try.prog 50 0 0:=fT 0 Try.underlying50
theorem Aak:Bw Try.prog 50 1 1:=fT 0 Try.underlying50
theorem Mw:Bw Try.prog 79 0 0:=fT 0 Try.underlying79
theorem Mv:Bw Try.prog 79 1 1:=fT 0 Try.underlying79
theorem F2:Bw Try.prog 81 0 0:=fT 0 Try.underlying81
theorem O0:Bw Try.prog 81 1 1:=fT 1 Try.underlying81
theorem Pz:Bw Try.prog 81 2 3:=fT 1 Try.underlying81
theorem Nv:Bw Try.prog 81 3 5:=fT 0 Try.underlying81
theorem Sc:Bw Try.prog 81 4 6:=fT 0 Try.underlying81
theorem Sb:Bw Try.prog 81 5 7:=fT 0 Try.underlying81
theorem Aee:Bw Try.prog 81 6 8:=fT 0 Try.underlying81
theorem pl2:K3 Try.prog 2:=⟨_,Try.underlying2,rfl⟩
theorem Du:K3 Try.prog 22:=⟨_,Try.underlying22,rfl⟩
theorem Gv:K3 Try.prog 23:=⟨_,Try.underlying23,rfl⟩
theorem pl3:K3 Try.prog 3:=⟨_,Try.underlying3,rfl⟩
theorem N1:K3 Try.prog 32:=⟨_,Try.underlying32,rfl⟩
theorem Nc:K3 Try.prog 33:=⟨_,Try.underlying33,rfl⟩
theorem Ei:Ia Try.prog 22 3 1:=⟨Try.underlying22,by kernel_rfl⟩
theorem Pp:Ia Try.prog 23 81 9:=⟨Try.underlying23,by kernel_rfl⟩
theorem Ri:Ia Try.prog 32 33 1:=⟨Try.underlying32,by kernel_rfl⟩
theorem Ags:Ia Try.prog 76 79 2:=⟨Try.underlying76,by kernel_rfl⟩
theorem Wb:C8 Try.prog 79 2:=by unfold C8;kernel_rfl
theorem N0:C8 Try.prog 81 9:=by unfold C8;kernel_rfl
theorem An2:L6 Try.prog 76 79 2 [.int .i64 0,.int .i64 0]:=⟨Try.underlying76,by kernel_rfl⟩
theorem Ad2:ZeroT Try.prog 79 [.int .i64 0,.int .i64 0]:=by unfold ZeroT;kernel_rfl
theorem Nz:ZeroT Try.prog 81 [.int .i64 0,.int .i64 0,.int .i64 0,.int .i64 0,.int .i64 0,.int .i64 0,.int .i64 0,.int .i64 0,.int .i64 0]:=by unfold ZeroT;kernel_rfl
end TLoop
open TLoop
theorem Mg {t:Tgt}{r:Bool} (w:World) (hm:Gc t=some r) :Calls Try.prog 39 #[.agg #[.int .i64 t.u0,.int .i64 t.u1,.int .i64 t.u2,.int .i64 t.w0,.int .i64 t.w1,.int .i64 t.w2,.int .i64 t.regs]] w (fun e w'=>e=.returned (.bool r)∧Grow w w'):=by
 unfold Gc at hm
 have hk:=Base.rfl (w:=w)
 refine Ak (n:=42) (args:=[.agg #[i_ t.u0,i_ t.u1,i_ t.u2,i_ t.w0,i_ t.w1,i_ t.w2,i_ t.regs]]) Try.func39 Z Z (nl Z) ?_ (An hk (Own.start w))
 refine sr (Aa Z ?_)
 refine(Aq (by decide) Z Z (fun b1=>?_))
 refine wa Z (nt (WC.seq (sr (wm Z (nt ?_)))))
 obtain⟨o2,ho3,hm4⟩:=Ag hm;clear hm;obtain⟨n5,ho6⟩:=A0 ho3
 refine Ci (H2:=[blk b1 t.cells 28,kn noM w.heap.size w w]) (τ:=[u_ 1 _]) (fun (x4_1:Int)=>[(4,(true,i_ x4_1))]) (fun x4_1=>[]) (fun x4_1 m=>B3 (Ju t) m x4_1=some o2) (fun x4_1=>o2=.go x4_1) 0 n5 ho6 ⟨Z,Z,trivial⟩ (pk [0,1]) ?_ ?_
 ·skip
  rintro x4_1 rfl
  refine WQ.then (sr (wf H8 Z (wl pl3 Z (Own.cell 0 Z Z) (wq Z (QV.geq Z Z Z Z) (wm Z (gp Z (fun hG=>QV.fieldAddr H8 Z Z) (gp Z (fun hG=>QV.load pl3 Z hG (Own.cell 0 Z Z)) (gp Z (fun hG=>QV.leq Z hG Z Z) (wq Z (Az Z Z Z (fun h=>h)) (wa Z ?_))))))))))
  refine nt (WC.ret ?_)
  obtain rfl:=(Ae hm4).symm
  exact Ar Z Z fun w hw=>kg hw
 rintro x4_1 m7 hI8
 obtain⟨m9,s10,rfl,hm11,hn12⟩:=Ap hI8;clear hI8;unfold Ju at hm11
 refine sr (wq Z (QV.lss Z Z Z Z) (nt (WC.seq ?_)))
 refine wc Z hm11 (fun h13 hm14=>?_) (fun h13 hm28=>?_) <;> clear hm11
 ·skip
  refine sk (WQ.then (WC.seq (WC.block (sr (wm Z (wa Z (ns (wm Z (wf Se Z ?_)))))))))
  obtain⟨c15,c17,c19,c21,hm22⟩:=cs4 hm14;clear hm14
  refine wq Z (B1 Pq Z Z Z Z c15.1 c15.2) (wl pl3 Z (Da 0 Z (Fo (off:=0) (i:=x4_1) c15.1 c15.2 Z Z Z) (E8 _ _ _)) (wq Z (QV.lss Z Z Z Z) (wm Z (gn Z (fun hG=>QV.move Z Z) (gn Z (fun hG=>QV.fieldAddr Se Z Z) (gn Z (fun hG=>B1 Pq Z hG Z hG (c17 hG).1 (c17 hG).2) (gn Z (fun hG=>QV.load pl3 Z hG (Da 0 Z (Fo (off:=0) (i:=x4_1) (c17 hG).1 (c17 hG).2 Z Z Z) (E8 _ _ _))) (gn Z (fun hG=>QV.gtr Z hG Z Z) (wq Z (A2 Z Z Z (fun h=>Dv h)) ?_)))))))))
  refine wm Z (gn Z (fun hG=>QV.move Z Z) (gn Z (fun hG=>QV.fieldAddr P6 Z Z) (gn Z (fun hG=>B1 Pq Z hG Z hG (c19 hG).1 (c19 hG).2) (gn Z (fun hG=>QV.load pl3 Z hG (Da 0 Z (Fo (off:=3) (i:=x4_1) (c19 hG).1 (c19 hG).2 Z Z Z) (E8 _ _ _))) (gn Z (fun hG=>QV.lss Z hG Z Z) (wq Z (A2 Z Z Z (fun h=>Dv h)) (wm Z (gn Z (fun hG=>QV.move Z Z) (gn Z (fun hG=>QV.fieldAddr P6 Z Z) ?_)))))))))
  refine gn Z (fun hG=>B1 Pq Z hG Z hG (c21 hG).1 (c21 hG).2) (gn Z (fun hG=>QV.load pl3 Z hG (Da 0 Z (Fo (off:=3) (i:=x4_1) (c21 hG).1 (c21 hG).2 Z Z Z) (E8 _ _ _))) (gn Z (fun hG=>QV.gtr Z hG Z Z) (wq Z (A2 Z Z Z (fun h=>Dv h)) (nt ?_))))
  refine wc Z hm22 (fun h23 hm24=>?_) (fun h23 hm25=>?_) <;> clear hm22
  ·skip
   refine sr (wa Z (nt (WC.ret (kr (tr (tr (kr (tr (tr ?_)))))))))
   obtain rfl:=Cy hm24 hn12
   obtain rfl:=(Ae hm4).symm
   exact Ar Z Z fun w hw=>kg hw
  refine sk (WQ.block (WQ.then (WC.region ?_)))
  obtain⟨c26,hm27⟩:=cs hm25;clear hm25
  refine wq Z (QV.add Z Z Z Z c26) (wm Z (WL.nil ?_))
  exact Ch (x4_1+1) m9 (Ax hm27 hn12) (Nat.lt_succ_self _) ⟨Z,Z,trivial⟩ (pk [0,1])
 refine WC.exit (te (te (Ai ?_)))
 exact C7 x4_1 (A6 hm28 hn12) ⟨Z,Z,trivial⟩ (pk [0,1])
theorem Js {t:Tgt}{op r:Int} (w:World) (hm:Ec t op=some r) :Calls Try.prog 69 #[.agg #[.int .i64 t.u0,.int .i64 t.u1,.int .i64 t.u2,.int .i64 t.w0,.int .i64 t.w1,.int .i64 t.w2,.int .i64 t.regs],.int .i64 op] w (fun e w'=>e=.returned (.int .i64 r)∧Grow w w'):=by
 unfold Ec at hm
 have hk:=Base.rfl (w:=w)
 refine Ak (n:=13) (args:=[.agg #[i_ t.u0,i_ t.u1,i_ t.u2,i_ t.w0,i_ t.w1,i_ t.w2,i_ t.regs],i_ op]) Try.func69 Z Z (nl Z) ?_ (An hk (Own.start w))
 refine sr (Aa Z ?_)
 refine(Aq (by decide) Z Z (fun b1=>?_))
 refine wa Z (nt (WC.seq (sr (wq Z (Ac Gk Z Z Z (Ab 0 Z)) ?_))))
 obtain⟨x2,hx3,hm4⟩:=Ag hm;clear hm
 refine wq Z (QV.call Alu (ec Z eN) (fun w hw=>have h:=Mg w hx3 ;h)) (wq Z (QV.not Z Z) (nt ?_))
 refine wc Z hm4 (fun h5 hm6=>?_) (fun h5 hm7=>?_) <;> clear hm4
 ·skip
  refine sr (wa Z (nt (WC.ret (tr ?_))))
  obtain rfl:=(Ae hm6).symm
  exact Ar Z Z fun w hw=>kg hw
 refine sk (WQ.then (sr (wm Z ?_)))
 obtain⟨x8,hx9,hm10⟩:=Ag hm7;clear hm7
 refine wq Z (QV.call Yc (ec Z eN) (fun w hw=>have h:=Fd w hx9 ;h)) (wf P6 Z ?_)
 obtain⟨c11,hm12⟩:=cs hm10;clear hm10
 refine wq Z (B1 Pq Z Z Z Z c11.1 c11.2) (wl pl3 Z (Da 0 Z (Fo (off:=3) (i:=x8) c11.1 c11.2 Z Z Z) (E8 _ _ _)) (wa Z (nt (WC.ret ?_))))
 obtain rfl:=(Ae hm12).symm
 exact Ar Z Z fun w hw=>kg hw
theorem Hn {n_ from_ below:Int}{r:Bool} (w:World) (hm:D0 n_ from_ below=some r) :Calls Try.prog 67 #[.int .i64 n_,.int .i64 from_,.int .i64 below] w (fun e w'=>e=.returned (.bool r)∧Grow w w'):=by
 unfold D0 at hm
 have hk:=Base.rfl (w:=w)
 refine Ak (n:=15) (args:=[i_ n_,i_ from_,i_ below]) Try.func67 Z Z (nl Z) ?_ (An hk (Own.start w))
 refine sr (wa Z (ns (wm Z (wm Z (wq Z (QV.geq Z Z Z Z) (wm Z (gp Z (fun hG=>QV.move Z Z) (gp Z (fun hG=>QV.move Z Z) (gp Z (fun hG=>QV.lss Z hG Z hG) ?_)))))))))
 refine wq Z (Az Z Z Z (fun h=>h)) (wa Z (nt (WC.ret ?_)))
 obtain rfl:=(Ae hm).symm
 exact Ar Z Z fun w hw=>kg hw
theorem Ii {s:Stm}{r:List Rf}{K0:World} (hm:Dh s=some r)  (M:Nat→Prop) (w:World) (hk:Base M K0 w) (hw0:Own M w [] w):Calls Try.prog 66 #[.agg #[.int .i64 s.op,.int .i64 s.a.st,.int .i64 s.a.bk,.int .i64 s.b.st,.int .i64 s.b.bk,.int .i64 s.ar,.int .i64 s.sp,.int .i64 s.pl,.int .i64 s.n]] w (fun e w'=>∃ X:Value×World,e=.returned (X.1)∧Own M w (kn M w.heap.size K0 X.2::[]) w'∧Arr X.2 X.1 2 (r.map Rf.cells)):=by
 unfold Dh at hm
 refine Ak (n:=19) (args:=[.agg #[i_ s.op,i_ s.a.st,i_ s.a.bk,i_ s.b.st,i_ s.b.bk,i_ s.ar,i_ s.sp,i_ s.pl,i_ s.n]]) Try.func66 Z Z (nl Z) ?_ (An hk hw0)
 refine sr (Aa Z ?_)
 refine(Aq (by decide) Z Z (fun b1=>?_))
 refine wa Z (nt (WC.seq (WC.block (sr (wf F2 Z (wl pl3 Z (Own.cell 0 Z Z) (wq Z (QV.eql Z Z Z Z) (wa Z (nt ?_)))))))))
 refine wc Z hm (fun h2 hm3=>?_) (fun h2 hm6=>?_) <;> clear hm
 ·skip
  refine sr (wf O0 Z (wq Z (Ac K6 Z Z Z (fun w hw=>(Ab 0 Z w hw).sub 1 2 Z)) (Aa Z ?_)))
  refine(EV.buildSlice (by decide) An2 (by decide) (by decide) (ps:=[(0,.tmp 8)]) (cells:=[i_ s.a.st,i_ s.a.bk]) (ec Z eN) (by kernel_rfl) (fun b4=>?_))
  refine wa Z (nt (WC.ret (kr (tr ?_))))
  obtain rfl:=(Ae hm3).symm
  refine WK.of (fun w hw=>hw.blkVec Rf.cells ([s.a]:List Rf) Z Rf.cells_len (nl Z)) ?_
  refine WK.of (C':=Own M w [kn M w.heap.size K0 K0,vec (Dk b4 1 1) 79 2 (List.map Rf.cells [s.a]),blk b1 s.cells 81]) (pk [2,0,1]) ?_
  refine WK.freeze hk (fun k5 hle5 hr5=>?_)
  have hA5:=Cf hr5
  refine Ar Z Z (fun w hw=>?_)
  exact⟨((Dk b4 1 1),k5),Z,hw.pick [0] (by decide),hA5⟩
 refine sr (wf F2 Z (wl pl3 Z (Own.cell 0 Z Z) (wq Z (QV.gtr Z Z Z Z) (wa Z (nt ?_)))))
 refine wc Z hm6 (fun h7 hm8=>?_) (fun h7 hm11=>?_) <;> clear hm6
 ·skip
  refine sr (wf O0 Z (wq Z (Ac K6 Z Z Z (fun w hw=>(Ab 0 Z w hw).sub 1 2 Z)) (wf Pz Z (wq Z (Ac K6 Z Z Z (fun w hw=>(Ab 0 Z w hw).sub 3 2 Z)) (Aa Z ?_)))))
  refine(EV.buildSlice (by decide) An2 (by decide) (by decide) (ps:=[(0,.tmp 15),(1,.tmp 17)]) (cells:=[i_ s.a.st,i_ s.a.bk,i_ s.b.st,i_ s.b.bk]) (ec Z (ec Z eN)) (by kernel_rfl) (fun b9=>?_))
  refine wa Z (nt (WC.ret (kr (tr ?_))))
  obtain rfl:=(Ae hm8).symm
  refine WK.of (fun w hw=>hw.blkVec Rf.cells ([s.a,s.b]:List Rf) Z Rf.cells_len (nl Z)) ?_
  refine WK.of (C':=Own M w [kn M w.heap.size K0 K0,vec (Dk b9 2 2) 79 2 (List.map Rf.cells [s.a,s.b]),blk b1 s.cells 81]) (pk [2,0,1]) ?_
  refine WK.freeze hk (fun k10 hle10 hr10=>?_)
  have hA10:=Cf hr10
  refine Ar Z Z (fun w hw=>?_)
  exact⟨((Dk b9 2 2),k10),Z,hw.pick [0] (by decide),hA10⟩
 refine sk (WQ.block (WQ.then (sr (wa Z (nt (WC.ret ?_))))))
 obtain rfl:=(Ae hm11).symm
 refine Ar Z Z (fun w hw=>?_)
 exact⟨(.slice none 0 0,K0),Z,hw.pick [1] (by decide),Arr.nil⟩
theorem Ae1 {v_l_logs v_l_body v_l_outs:Value}{l:Lp}{k_:Int}{r_:Rf}{r:Bool} (w:World) (hm:M5 l k_ r_=some r) (h_l_logs:Arr w v_l_logs 1 (l.logs.map Af)) (h_l_body:Arr w v_l_body 9 (l.body.map Stm.cells)) (h_l_outs:Arr w v_l_outs 1 (l.outs.map Af)):Calls Try.prog 105 #[.agg #[v_l_logs,v_l_body,v_l_outs],.int .i64 k_,.agg #[.int .i64 r_.st,.int .i64 r_.bk]] w (fun e w'=>e=.returned (.bool r)∧Grow w w'):=by
 unfold M5 at hm
 have hk:=Base.rfl (w:=w)
 refine Ak (n:=24) (args:=[.agg #[v_l_logs,v_l_body,v_l_outs],i_ k_,.agg #[i_ r_.st,i_ r_.bk]]) Try.func105 Z Z (nl Z) ?_ (An hk (Own.start w))
 refine sr (Aa Z ?_)
 refine(Aq (by decide) Z Z (fun b1=>?_))
 refine Aa Z ?_
 refine(Aq (by decide) Z Z (fun b2=>?_))
 refine wa Z (ns (wf Co Z (wl Gv Z (Own.cell 1 Z Z) (wq Z (Ay Try.underlying23 Z Z h_l_body.lenMap) (wa Z (nt (WC.seq (sr (wf Mv Z (wl pl3 Z (Own.cell 0 Z Z) (wq Z (QV.eql Z Z Z Z) ?_)))))))))))
 refine nt ?_
 refine wc Z hm (fun h3 hm4=>?_) (fun h3 hm11=>?_) <;> clear hm
 ·skip
  refine WC.region (wm Z (wa Z (ns (wf Mv Z (wl pl3 Z (Own.cell 0 Z Z) ?_)))))
  obtain⟨x5,hx6,hm7⟩:=Ag hm4;clear hm4
  refine wq Z (QV.call Yd (ec Z (ec Z (ec Z eN))) (fun w hw=>have h:=Hn w hx6 ;h)) (wm Z (gp Z (fun hG=>QV.fieldAddr Mw Z Z) (gp Z (fun hG=>QV.load pl3 Z hG (Own.cell 0 Z Z)) (gp Z (fun hG=>QV.move Z Z) ?_))))
  obtain⟨x8,hx9,hm10⟩:=Ce hm7;clear hm7
  refine gp Z (fun hG=>QV.call Yd (EvAll.cons Z hG (ec Z (EvAll.cons Z hG eN))) (fun w hw=>have h:=Hn w (hx9 hG) ;h)) (wq Z (Az Z Z Z (fun h=>h)) (wa Z (nt (WC.ret ?_))))
  obtain rfl:=(Ae hm10).symm
  exact Ar Z Z fun w hw=>kg hw
 refine sk (WQ.then (sr (wf Mv Z (wl pl3 Z (Own.cell 0 Z Z) ?_))))
 obtain⟨x12,hx13,hm14⟩:=Ag hm11;clear hm11
 refine wq Z (QV.call Yd (ec Z (ec Z (ec Z eN))) (fun w hw=>have h:=Hn w hx13 ;h)) (wm Z (gp Z (fun hG=>QV.fieldAddr Mw Z Z) (gp Z (fun hG=>QV.load pl3 Z hG (Own.cell 0 Z Z)) (gp Z (fun hG=>QV.move Z Z) ?_))))
 obtain⟨x15,hx16,hm17⟩:=Ce hm14;clear hm14
 refine gp Z (fun hG=>QV.call Yd (EvAll.cons Z hG (ec Z (EvAll.cons Z hG eN))) (fun w hw=>have h:=Hn w (hx16 hG) ;h)) (wq Z (Az Z Z Z (fun h=>h)) (wa Z (nt (WC.ret ?_))))
 obtain rfl:=(Ae hm17).symm
 exact Ar Z Z fun w hw=>kg hw
theorem Ads {v_l_logs v_l_body v_l_outs:Value}{l:Lp}{k_:Int}{r:Bool} (w:World) (hm:Ly l k_=some r) (h_l_logs:Arr w v_l_logs 1 (l.logs.map Af)) (h_l_body:Arr w v_l_body 9 (l.body.map Stm.cells)) (h_l_outs:Arr w v_l_outs 1 (l.outs.map Af)):Calls Try.prog 68 #[.agg #[v_l_logs,v_l_body,v_l_outs],.int .i64 k_] w (fun e w'=>e=.returned (.bool r)∧Grow w w'):=by
 unfold Ly at hm
 have hk:=Base.rfl (w:=w)
 refine Ak (n:=132) (args:=[.agg #[v_l_logs,v_l_body,v_l_outs],i_ k_]) Try.func68 Z Z (nl Z) ?_ (An hk (Own.start w))
 refine sr (Aa Z ?_)
 refine(Aq (by decide) Z Z (fun b1=>?_))
 refine wa Z (ns (wf Co Z (wl Gv Z (Own.cell 0 Z Z) (wm Z ?_))))
 obtain⟨c2,hm3⟩:=cs hm;clear hm
 obtain⟨p4,hp5⟩:=h_l_body.lenMap.ix (sz:=9) Au c2
 refine wq Z (Ad Pp Z Z Z Z hp5) (wq Z (Ac Kk Z Z Z (fun w hw=>((Ah 1 Z hk h_l_body) w hw).ele hp5 c2)) (Aa Z ?_))
 refine(EV.alloc (by decide) Nz (fun b6=>?_))
 refine Aa Z ?_
 refine(EV.store 0 Z Z Z Z Z Z (vs:=(Stm.cells (ele l.body k_))) (show Value.cells _=List.toArray _ from Z) N0 (nl Z) (oc Z (oc Z (oc Z (oc Z (oc Z (oc Z (oc Z (oc Z (oc Z Aw))))))))) ?_)
 refine ns (wq Z (QV.build (ps:=[]) (cells:=[i_ 0,i_ 0]) eN (by kernel_rfl)) (Aa Z ?_))
 refine(EV.alloc (by decide) Ad2 (fun b7=>?_))
 refine Aa Z ?_
 refine(EV.store 0 Z Z Z Z Z Z (vs:=[i_ 0,i_ 0]) (show Value.cells _=List.toArray _ from Z) Wb (nl Z) (oc Z (oc Z Aw)) ?_)
 refine ns (wf Nv Z (wl pl3 Z (Own.cell 1 Z Z) (wf O1 Z (wl Du Z (Own.cell 2 Z Z) (wq Z (Ay Try.underlying22 Z Z h_l_logs.lenMap) ?_)))))
 obtain⟨x8,hx9,hm10⟩:=Ag hm3;clear hm3
 refine wq Z (QV.call Yd (ec Z (ec Z (ec Z eN))) (fun w hw=>have h:=Hn w hx9 ;h)) (wm Z (gp Z (fun hG=>QV.fieldAddr Sc Z Z) (gp Z (fun hG=>QV.load pl3 Z hG (Own.cell 1 Z Z)) ?_)))
 obtain⟨x11,hx12,hm13⟩:=Ce hm10;clear hm10
 refine gp Z (fun hG=>QV.call Yd (EvAll.cons Z hG (ec Z (ec Z eN))) (fun w hw=>have h:=Hn w (hx12 hG) ;h)) (wq Z (Az Z Z Z (fun h=>h)) (wm Z (gp Z (fun hG=>QV.fieldAddr Sb Z Z) (gp Z (fun hG=>QV.load pl3 Z hG (Own.cell 1 Z Z)) ?_))))
 obtain⟨x14,hx15,hm16⟩:=Ce hm13;clear hm13
 refine gp Z (fun hG=>QV.call Yd (EvAll.cons Z hG (ec Z (ec Z eN))) (fun w hw=>have h:=Hn w (hx15 hG) ;h)) (wq Z (Az Z Z Z (fun h=>h)) (wa Z (ns (wf Nv Z (wl pl3 Z (Own.cell 1 Z Z) (wq Z (QV.eql Z Z Z Z) (wm Z (gp Z (fun hG=>QV.fieldAddr Sc Z Z) (gp Z (fun hG=>QV.load pl3 Z hG (Own.cell 1 Z Z)) ?_)))))))))
 refine gp Z (fun hG=>QV.eql Z hG Z Z) (wq Z (Az Z Z Z (fun h=>h)) (wm Z (gp Z (fun hG=>QV.fieldAddr Sb Z Z) (gp Z (fun hG=>QV.load pl3 Z hG (Own.cell 1 Z Z)) (gp Z (fun hG=>QV.eql Z hG Z Z) (wq Z (Az Z Z Z (fun h=>h)) (wa Z (nt (WC.seq (sr (wq Z (Ac Kk Z Z Z (Ab 1 Z)) ?_)))))))))))
 refine Aa Z ?_
 obtain⟨x17,hx18,hm19⟩:=Ag hm16;clear hm16
 refine EV.of (C':=Own noM w [kn noM w.heap.size w w,blk b7 [i_ 0,i_ 0] 79,blk b6 (Stm.cells (ele l.body k_)) 81,blk b1 [v_l_logs,v_l_body,v_l_outs] 25]) (pk [3,0,1,2]) ?_
 refine(A4 (X:=Value×World) (R:=[]) (fun X=>X.1) (fun X=>[]) (fun X=>X.2) (fun X=>Arr X.2 X.1 2 (x17.map Rf.cells)) hk (fun _ h=>by cases h;decide) Ad7 (ec Z eN) (fun M w h1 h2=>have h:=Ii hx18  M w h1 h2;h) (fun X20 hF20 hle20=>?_))
 refine wq Z (Ay Try.underlying76 Z Z hF20.lenMap) (wm Z (nt ?_))
 obtain⟨o21,ho22,hm23⟩:=Ag hm19;clear hm19;obtain⟨n24,ho25⟩:=A0 ho22
 refine Ci (H2:=[kn noM w.heap.size w X20.2,blk b7 [i_ 0,i_ 0] 79,blk b6 (Stm.cells (ele l.body k_)) 81,blk b1 [v_l_logs,v_l_body,v_l_outs] 25]) (τ:=[u_ 1 _,u_ 2 _,u_ 5 _,u_ 6 _,u_ 7 _,u_ 8 _,u_ 47 _,u_ 48 _]) (fun (x49_1:Int)=>[(49,(true,i_ x49_1))]) (fun x49_1=>[]) (fun x49_1 m=>B3 (Fc l k_ x17) m x49_1=some o21) (fun x49_1=>o21=.go x49_1) 0 n24 ho25 ⟨Z,Z,Z,Z,Z,Z,Z,Z,Z,trivial⟩ (pk [0,1,2,3]) ?_ ?_
 ·skip
  rintro x49_1 rfl
  refine WQ.then (WC.seq (WC.block (sr (wf F2 Z (wl pl3 Z (Own.cell 2 Z Z) (wq Z (QV.eql Z Z Z Z) (wa Z (nt ?_))))))))
  refine wc Z hm23 (fun h26 hm27=>?_) (fun h26 hm28=>?_) <;> clear hm23
  ·skip
   refine sr (wm Z (wm Z (gp Z (fun hG=>QV.fieldAddr O0 Z Z) (gp Z (fun hG=>Ac K6 Z Z hG (fun w hw=>(Ab 2 Z w hw).sub 1 2 Z)) (gp Z (fun hG=>Ac K6 Z Z Z (Ab 1 Z)) (gp Z (fun hG=>Nj Ad5 (ns:=[((ele l.body k_).a).st,((ele l.body k_).a).bk]) (ms:=[0,0]) Z hG Z hG Z Z) (wq Z (Az Z Z Z (fun h=>h)) (wm Z (gp Z (fun hG=>QV.fieldAddr Pz Z Z) ?_)))))))))
   refine gp Z (fun hG=>Ac K6 Z Z hG (fun w hw=>(Ab 2 Z w hw).sub 3 2 Z)) (gp Z (fun hG=>Ac K6 Z Z Z (Ab 1 Z)) (gp Z (fun hG=>Nj Ad5 (ns:=[((ele l.body k_).b).st,((ele l.body k_).b).bk]) (ms:=[0,0]) Z hG Z hG Z Z) (wq Z (Az Z Z Z (fun h=>h)) (wa Z (nt (WC.ret (kr (tr ?_))))))))
   obtain rfl:=(Ae hm27).symm
   exact Ar Z Z fun w hw=>kg hw
  refine sr (wf Aee Z (wl pl2 Z (Own.cell 2 Z Z) (wq Z (QV.neq Z Z Z Z) (wa Z (nt ?_)))))
  refine wc Z hm28 (fun h29 hm30=>?_) (fun h29 hm31=>?_) <;> clear hm28
  ·skip
   refine sr (wa Z (nt (WC.ret (kr (tr ?_)))))
   obtain rfl:=(Ae hm30).symm
   exact Ar Z Z fun w hw=>kg hw
  refine sr (wf F2 Z (wl pl3 Z (Own.cell 2 Z Z) (wq Z (QV.eql Z Z Z Z) (wa Z (nt ?_)))))
  refine wc Z hm31 (fun h32 hm33=>?_) (fun h32 hm34=>?_) <;> clear hm31
  ·skip
   refine sr (wm Z (wm Z (gp Z (fun hG=>QV.fieldAddr O0 Z Z) (gp Z (fun hG=>Ac K6 Z Z hG (fun w hw=>(Ab 2 Z w hw).sub 1 2 Z)) (gp Z (fun hG=>Ac K6 Z Z Z (Ab 1 Z)) (gp Z (fun hG=>Nj Ad5 (ns:=[((ele l.body k_).a).st,((ele l.body k_).a).bk]) (ms:=[0,0]) Z hG Z hG Z Z) (wq Z (Az Z Z Z (fun h=>h)) (wm Z (gp Z (fun hG=>QV.fieldAddr Pz Z Z) ?_)))))))))
   refine gp Z (fun hG=>Ac K6 Z Z hG (fun w hw=>(Ab 2 Z w hw).sub 3 2 Z)) (gp Z (fun hG=>Ac K6 Z Z Z (Ab 1 Z)) (gp Z (fun hG=>Nj Ad5 (ns:=[((ele l.body k_).b).st,((ele l.body k_).b).bk]) (ms:=[0,0]) Z hG Z hG Z Z) (wq Z (Az Z Z Z (fun h=>h)) (wa Z (nt (WC.ret (kr (tr ?_))))))))
   obtain rfl:=(Ae hm33).symm
   exact Ar Z Z fun w hw=>kg hw
  refine sr (wf F2 Z (wl pl3 Z (Own.cell 2 Z Z) (wq Z (QV.eql Z Z Z Z) (wa Z (nt ?_)))))
  refine wc Z hm34 (fun h35 hm36=>?_) (fun h35 hm37=>?_) <;> clear hm34
  ·skip
   refine sr (wm Z (wm Z (gp Z (fun hG=>QV.fieldAddr O0 Z Z) (gp Z (fun hG=>Ac K6 Z Z hG (fun w hw=>(Ab 2 Z w hw).sub 1 2 Z)) (gp Z (fun hG=>Ac K6 Z Z Z (Ab 1 Z)) (gp Z (fun hG=>Nj Ad5 (ns:=[((ele l.body k_).a).st,((ele l.body k_).a).bk]) (ms:=[0,0]) Z hG Z hG Z Z) (wq Z (Az Z Z Z (fun h=>h)) (wm Z (gp Z (fun hG=>QV.fieldAddr Pz Z Z) ?_)))))))))
   refine gp Z (fun hG=>Ac K6 Z Z hG (fun w hw=>(Ab 2 Z w hw).sub 3 2 Z)) (gp Z (fun hG=>Ac K6 Z Z Z (Ab 1 Z)) (gp Z (fun hG=>Nj Ad5 (ns:=[((ele l.body k_).b).st,((ele l.body k_).b).bk]) (ms:=[0,0]) Z hG Z hG Z Z) (wq Z (Az Z Z Z (fun h=>h)) (wa Z (nt (WC.ret (kr (tr ?_))))))))
   obtain rfl:=(Ae hm36).symm
   exact Ar Z Z fun w hw=>kg hw
  refine sr (wf F2 Z (wl pl3 Z (Own.cell 2 Z Z) (wq Z (QV.eql Z Z Z Z) (wa Z (nt ?_)))))
  refine wc Z hm37 (fun h38 hm39=>?_) (fun h38 hm40=>?_) <;> clear hm37
  ·skip
   refine sr (wm Z (wm Z (gp Z (fun hG=>QV.fieldAddr Pz Z Z) (gp Z (fun hG=>Ac K6 Z Z hG (fun w hw=>(Ab 2 Z w hw).sub 3 2 Z)) (gp Z (fun hG=>Ac K6 Z Z Z (Ab 1 Z)) (gp Z (fun hG=>Nj Ad5 (ns:=[((ele l.body k_).b).st,((ele l.body k_).b).bk]) (ms:=[0,0]) Z hG Z hG Z Z) (wq Z (Az Z Z Z (fun h=>h)) (wa Z (nt (WC.ret (kr (tr ?_))))))))))))
   obtain rfl:=(Ae hm39).symm
   exact Ar Z Z fun w hw=>kg hw
  refine sk (WQ.block (WQ.then (sr (wm Z (wm Z (gp Z (fun hG=>QV.fieldAddr F2 Z Z) (gp Z (fun hG=>QV.load pl3 Z hG (Own.cell 2 Z Z)) (gp Z (fun hG=>Abl Z hG Z Z) ?_))))))))
  obtain⟨x41,hx42,hm43⟩:=Ce hm40;clear hm40
  refine gp Z (fun hG=>QV.call Yd (EvAll.cons Z hG (ec Z (ec Z eN))) (fun w hw=>have h:=Hn w (hx42 hG) ;h)) (wq Z (Az Z Z Z (fun h=>h)) (wa Z (nt (WC.ret ?_))))
  obtain rfl:=(Ae hm43).symm
  exact Ar Z Z fun w hw=>kg hw
 rintro x49_1 m44 hI45
 obtain⟨m46,s47,rfl,hm48,hn49⟩:=Ap hI45;clear hI45;unfold Fc at hm48
 refine sr (wq Z (QV.lss Z Z Z Z) (nt (WC.seq ?_)))
 refine wc Z hm48 (fun h50 hm51=>?_) (fun h50 hm65=>?_) <;> clear hm48
 ·skip
  refine sk (WQ.then (WC.seq (WC.block (sr ?_))))
  obtain⟨c52,hm53⟩:=cs hm51;clear hm51
  obtain⟨p54,hp55⟩:=hF20.lenMap.ix (sz:=2) Au c52
  refine wq Z (Ad Ags Z Z Z Z hp55) (wq Z (Ac K6 Z Z Z (fun w hw=>((Ah 0 Z hk hF20) w hw).ele hp55 c52)) (Aa Z ?_))
  refine(EV.alloc (by decide) Ad2 (fun b56=>?_))
  refine Aa Z ?_
  refine(EV.store 0 Z Z Z Z Z Z (vs:=[i_ ((ele x17 x49_1).st),i_ ((ele x17 x49_1).bk)]) (show Value.cells _=List.toArray _ from Z) Wb (nl Z) (oc Z (oc Z Aw)) ?_)
  refine ns (wq Z (Ac Fh Z Z Z (Ab 4 Z)) (wm Z (wq Z (Ac K6 Z Z Z (Ab 0 Z)) ?_)))
  obtain⟨x57,hx58,hm59⟩:=Ag hm53;clear hm53
  refine wq Z (QV.call en105 (ec Z (ec Z (ec Z eN))) (fun w hw=>have h:=Ae1 w hx58 ((Ah 1 Z hk (h_l_logs.le hle20)) w hw) ((Ah 1 Z hk (h_l_body.le hle20)) w hw) ((Ah 1 Z hk (h_l_outs.le hle20)) w hw);h)) (wq Z (QV.not Z Z) (nt ?_))
  refine wc Z hm59 (fun h60 hm61=>?_) (fun h60 hm62=>?_) <;> clear hm59
  ·skip
   refine sr (wa Z (nt (WC.ret (kr (tr (tr (kr (tr (tr ?_)))))))))
   obtain rfl:=Cy hm61 hn49
   obtain rfl:=(Ae hm23).symm
   exact Ar Z Z fun w hw=>kg hw
  refine sk (WQ.block (WQ.then (WC.region ?_)))
  obtain⟨c63,hm64⟩:=cs hm62;clear hm62
  refine wq Z (QV.add Z Z Z Z c63) (wm Z (WL.nil ?_))
  exact Ch (x49_1+1) m46 (Ax hm64 hn49) (Nat.lt_succ_self _) ⟨Z,Z,Z,Z,Z,Z,Z,Z,Z,trivial⟩ (pk [1,2,3,4])
 refine WC.exit (te (te (Ai ?_)))
 exact C7 x49_1 (A6 hm65 hn49) ⟨Z,Z,Z,Z,Z,Z,Z,Z,Z,trivial⟩ (pk [0,1,2,3])
theorem M6 {v_l_logs v_l_body v_l_outs:Value}{l:Lp}{r:Bool} (w:World) (hm:Gl l=some r) (h_l_logs:Arr w v_l_logs 1 (l.logs.map Af)) (h_l_body:Arr w v_l_body 9 (l.body.map Stm.cells)) (h_l_outs:Arr w v_l_outs 1 (l.outs.map Af)):Calls Try.prog 38 #[.agg #[v_l_logs,v_l_body,v_l_outs]] w (fun e w'=>e=.returned (.bool r)∧Grow w w'):=by
 unfold Gl at hm
 have hk:=Base.rfl (w:=w)
 refine Ak (n:=64) (args:=[.agg #[v_l_logs,v_l_body,v_l_outs]]) Try.func38 Z Z (nl Z) ?_ (An hk (Own.start w))
 refine sr (Aa Z ?_)
 refine(Aq (by decide) Z Z (fun b1=>?_))
 refine wa Z (nt (WC.seq (sr (wf O1 Z (wl Du Z (Own.cell 0 Z Z) (wq Z (Ay Try.underlying22 Z Z h_l_logs.lenMap) (wm Z (nt ?_))))))))
 obtain⟨o2,ho3,hm4⟩:=Ag hm;clear hm;obtain⟨n5,ho6⟩:=A0 ho3
 refine Ci (H2:=[blk b1 [v_l_logs,v_l_body,v_l_outs] 25,kn noM w.heap.size w w]) (τ:=[u_ 1 _,u_ 10 _,u_ 11 _]) (fun (x12_1:Int)=>[(12,(true,i_ x12_1))]) (fun x12_1=>[]) (fun x12_1 m=>B3 (G8 l) m x12_1=some o2) (fun x12_1=>o2=.go x12_1) 0 n5 ho6 ⟨Z,Z,Z,Z,trivial⟩ (pk [0,1]) ?_ ?_
 ·skip
  rintro x12_1 rfl
  refine WQ.then (sr (wa Z (nt (WC.seq (sr (wf Aal Z (wl Du Z (Own.cell 0 Z Z) (wq Z (Ay Try.underlying22 Z Z h_l_outs.lenMap) (wm Z (nt ?_))))))))))
  obtain⟨o7,ho8,hm9⟩:=Ag hm4;clear hm4;obtain⟨n10,ho11⟩:=A0 ho8
  refine Bz (H2:=[blk b1 [v_l_logs,v_l_body,v_l_outs] 25,kn noM w.heap.size w w]) (τ:=[u_ 1 _,u_ 21 _,u_ 22 _]) (fun (last5_2:Int) (x23_2:Int)=>[(5,(true,i_ last5_2)),(23,(true,i_ x23_2))]) (fun last5_2 x23_2=>[]) (fun last5_2 x23_2 m=>B3 (G7 l) m (last5_2,x23_2)=some o7) (fun last5_2 x23_2=>o7=.go (last5_2,x23_2)) (-1) 0 n10 ho11 ⟨Z,Z,Z,Z,Z,trivial⟩ (pk [0,1]) ?_ ?_
  ·skip
   rintro last5_2 x23_2 rfl
   refine WQ.then (WC.seq (sr (wf Co Z (wl Gv Z (Own.cell 0 Z Z) (wq Z (Ay Try.underlying23 Z Z h_l_body.lenMap) (wm Z (nt ?_)))))))
   obtain⟨o12,ho13,hm14⟩:=Ag hm9;clear hm9;obtain⟨n15,ho16⟩:=A0 ho13
   refine Ci (H2:=[blk b1 [v_l_logs,v_l_body,v_l_outs] 25,kn noM w.heap.size w w]) (τ:=[u_ 1 _,u_ 39 _]) (fun (x40_3:Int)=>[(40,(true,i_ x40_3))]) (fun x40_3=>[]) (fun x40_3 m=>B3 (Fe l) m x40_3=some o12) (fun x40_3=>o12=.go x40_3) 0 n15 ho16 ⟨Z,Z,Z,trivial⟩ (pk [0,1]) ?_ ?_
   ·skip
    rintro x40_3 rfl
    refine WQ.then (sr (wf O1 Z (wl Du Z (Own.cell 0 Z Z) (wq Z (Ay Try.underlying22 Z Z h_l_logs.lenMap) (wq Z (QV.leq Z Z Z Z) (wm Z (gp Z (fun hG=>QV.fieldAddr Co Z Z) (gp Z (fun hG=>QV.load Gv Z hG (Own.cell 0 Z Z)) (gp Z (fun hG=>Ay Try.underlying23 Z hG h_l_body.lenMap) (gp Z (fun hG=>QV.gtr Z hG Z Z) ?_))))))))))
    refine wq Z (Az Z Z Z (fun h=>h)) (wa Z (nt (WC.ret ?_)))
    obtain rfl:=(Ae hm14).symm
    exact Ar Z Z fun w hw=>kg hw
   rintro x40_3 m17 hI18
   obtain⟨m19,s20,rfl,hm21,hn22⟩:=Ap hI18;clear hI18;unfold Fe at hm21
   refine sr (wq Z (QV.lss Z Z Z Z) (nt (WC.seq ?_)))
   refine wc Z hm21 (fun h23 hm24=>?_) (fun h23 hm33=>?_) <;> clear hm21
   ·skip
    refine sk (WQ.then (WC.seq (WC.block (sr (wm Z (wa Z (ns (wf Co Z (wl Gv Z (Own.cell 0 Z Z) (wq Z (Ay Try.underlying23 Z Z h_l_body.lenMap) (wq Z (QV.gtr Z Z Z Z) (wm Z (gn Z (fun hG=>Ac Fh Z Z Z (Ab 0 Z)) ?_)))))))))))))
    refine gn Z (fun hG=>QV.move Z Z) ?_
    obtain⟨x25,hx26,hm27⟩:=Ce hm24;clear hm24
    refine gn Z (fun hG=>QV.call en68 (EvAll.cons Z hG (EvAll.cons Z hG eN)) (fun w hw=>have h:=Ads w (hx26 hG) ((Ah 1 Z hk h_l_logs) w hw) ((Ah 1 Z hk h_l_body) w hw) ((Ah 1 Z hk h_l_outs) w hw);h)) (gn Z (fun hG=>QV.not Z hG) (wq Z (A2 Z Z Z (fun h=>Dv h)) (nt ?_)))
    refine wc Z hm27 (fun h28 hm29=>?_) (fun h28 hm30=>?_) <;> clear hm27
    ·skip
     refine sr (wa Z (nt (WC.ret (kr (tr (tr (kr (tr (tr ?_)))))))))
     obtain rfl:=Cy hm29 hn22
     obtain rfl:=(Ae hm14).symm
     exact Ar Z Z fun w hw=>kg hw
    refine sk (WQ.block (WQ.then (WC.region ?_)))
    obtain⟨c31,hm32⟩:=cs hm30;clear hm30
    refine wq Z (QV.add Z Z Z Z c31) (wm Z (WL.nil ?_))
    exact Ch (x40_3+1) m19 (Ax hm32 hn22) (Nat.lt_succ_self _) ⟨Z,Z,Z,trivial⟩ (pk [0,1])
   refine WC.exit (te (te (Ai ?_)))
   exact C7 x40_3 (A6 hm33 hn22) ⟨Z,Z,Z,trivial⟩ (pk [0,1])
  rintro last5_2 x23_2 m34 hI35
  obtain⟨m36,s37,rfl,hm38,hn39⟩:=Ap hI35;clear hI35;unfold G7 at hm38;simp only at hm38
  refine sr (wq Z (QV.lss Z Z Z Z) (nt (WC.seq ?_)))
  refine wc Z hm38 (fun h40 hm41=>?_) (fun h40 hm56=>?_) <;> clear hm38
  ·skip
   refine sk (WQ.then (WC.seq (WC.block (sr ?_))))
   obtain⟨c42,hm43⟩:=cs hm41;clear hm41
   obtain⟨p44,hp45⟩:=h_l_outs.lenMap.ix (sz:=1) Au c42
   refine wq Z (Ad Ei Z Z Z Z hp45) (wl pl3 Z (fun w hw=>CellsAt.one 0 (((Ah 1 Z hk h_l_outs) w hw).ele hp45 c42) Z) (wa Z (nt (WC.seq (sr (wm Z (wm Z ?_)))))))
   obtain⟨c46,hm47⟩:=cs hm43;clear hm43
   refine wq Z (QV.add Z Z Z Z c46) (wf Co Z (wl Gv Z (Own.cell 0 Z Z) (wq Z (Ay Try.underlying23 Z Z h_l_body.lenMap) ?_)))
   obtain⟨x48,hx49,hm50⟩:=Ag hm47;clear hm47
   refine wq Z (QV.call Yd (ec Z (ec Z (ec Z eN))) (fun w hw=>have h:=Hn w hx49 ;h)) (wq Z (QV.not Z Z) (nt ?_))
   refine wc Z hm50 (fun h51 hm52=>?_) (fun h51 hm53=>?_) <;> clear hm50
   ·skip
    refine sr (wa Z (nt (WC.ret (tr (kr (tr (tr (kr (tr (tr ?_))))))))))
    obtain rfl:=Cy hm52 hn39
    obtain rfl:=(Ae hm9).symm
    exact Ar Z Z fun w hw=>kg hw
   refine sk (WQ.then (WC.region (wm Z (wa Z (WL.nil (WQ.block (WQ.then (WC.region ?_))))))))
   obtain⟨c54,hm55⟩:=cs hm53;clear hm53
   refine wq Z (QV.add Z Z Z Z c54) (wm Z (WL.nil ?_))
   exact Bn (ele l.outs x23_2) (x23_2+1) m36 (Ax hm55 hn39) (Nat.lt_succ_self _) ⟨Z,Z,Z,Z,Z,trivial⟩ (pk [0,1])
  refine WC.exit (te (te (Ai ?_)))
  exact Cb last5_2 x23_2 (A6 hm56 hn39) ⟨Z,Z,Z,Z,Z,trivial⟩ (pk [0,1])
 rintro x12_1 m57 hI58
 obtain⟨m59,s60,rfl,hm61,hn62⟩:=Ap hI58;clear hI58;unfold G8 at hm61
 refine sr (wq Z (QV.lss Z Z Z Z) (nt (WC.seq ?_)))
 refine wc Z hm61 (fun h63 hm64=>?_) (fun h63 hm77=>?_) <;> clear hm61
 ·skip
  refine sk (WQ.then (WC.seq (WC.block (sr ?_))))
  obtain⟨c65,hm66⟩:=cs hm64;clear hm64
  obtain⟨p67,hp68⟩:=h_l_logs.lenMap.ix (sz:=1) Au c65
  refine wq Z (Ad Ei Z Z Z Z hp68) (wl pl3 Z (fun w hw=>CellsAt.one 0 (((Ah 1 Z hk h_l_logs) w hw).ele hp68 c65) Z) (wa Z (ns (wm Z ?_))))
  obtain⟨x69,hx70,hm71⟩:=Ag hm66;clear hm66
  refine wq Z (QV.call Yd (ec Z (ec Z (ec Z eN))) (fun w hw=>have h:=Hn w hx70 ;h)) (wq Z (QV.not Z Z) (nt ?_))
  refine wc Z hm71 (fun h72 hm73=>?_) (fun h72 hm74=>?_) <;> clear hm71
  ·skip
   refine sr (wa Z (nt (WC.ret (kr (tr (tr (kr (tr (tr ?_)))))))))
   obtain rfl:=Cy hm73 hn62
   obtain rfl:=(Ae hm4).symm
   exact Ar Z Z fun w hw=>kg hw
  refine sk (WQ.block (WQ.then (WC.region ?_)))
  obtain⟨c75,hm76⟩:=cs hm74;clear hm74
  refine wq Z (QV.add Z Z Z Z c75) (wm Z (WL.nil ?_))
  exact Ch (x12_1+1) m59 (Ax hm76 hn62) (Nat.lt_succ_self _) ⟨Z,Z,Z,Z,trivial⟩ (pk [0,1])
 refine WC.exit (te (te (Ai ?_)))
 exact C7 x12_1 (A6 hm77 hn62) ⟨Z,Z,Z,Z,trivial⟩ (pk [0,1])
theorem Adt {v_l_logs v_l_body v_l_outs v_s_bef v_s_mem:Value}{l:Lp}{s:Sta}{r:Bool} (w:World) (hm:Kg l s=some r) (h_l_logs:Arr w v_l_logs 1 (l.logs.map Af)) (h_l_body:Arr w v_l_body 9 (l.body.map Stm.cells)) (h_l_outs:Arr w v_l_outs 1 (l.outs.map Af)) (h_s_bef:RowsA w v_s_bef s.bef) (h_s_mem:RowsA w v_s_mem s.mem):Calls Try.prog 52 #[.agg #[v_l_logs,v_l_body,v_l_outs],.agg #[v_s_bef,v_s_mem]] w (fun e w'=>e=.returned (.bool r)∧Grow w w'):=by
 unfold Kg at hm
 have hk:=Base.rfl (w:=w)
 refine Ak (n:=59) (args:=[.agg #[v_l_logs,v_l_body,v_l_outs],.agg #[v_s_bef,v_s_mem]]) Try.func52 Z Z (nl Z) ?_ (An hk (Own.start w))
 refine sr (Aa Z ?_)
 refine(Aq (by decide) Z Z (fun b1=>?_))
 refine Aa Z ?_
 refine(Aq (by decide) Z Z (fun b2=>?_))
 refine wa Z (nt (WC.seq (sr (wq Z (Ac Fh Z Z Z (Ab 1 Z)) ?_))))
 obtain⟨x3,hx4,hm5⟩:=Ag hm;clear hm
 refine wq Z (QV.call Aim (ec Z eN) (fun w hw=>have h:=M6 w hx4 ((Ah 2 Z hk h_l_logs) w hw) ((Ah 2 Z hk h_l_body) w hw) ((Ah 2 Z hk h_l_outs) w hw);h)) (wq Z (QV.not Z Z) (wm Z (gn Z (fun hG=>QV.fieldAddr Wp Z Z) (gn Z (fun hG=>QV.load N1 Z hG (Own.cell 0 Z Z)) (gn Z (fun hG=>Ay Try.underlying32 Z hG h_s_bef.slen) (gn Z (fun hG=>QV.fieldAddr Co Z Z) (gn Z (fun hG=>QV.load Gv Z hG (Own.cell 1 Z Z)) (gn Z (fun hG=>Ay Try.underlying23 Z hG h_l_body.lenMap) (gn Z (fun hG=>QV.neq Z hG Z hG) ?_)))))))))
 refine wq Z (A2 Z Z Z (fun h=>Dv h)) (wm Z (gn Z (fun hG=>QV.fieldAddr Aak Z Z) (gn Z (fun hG=>QV.load N1 Z hG (Own.cell 0 Z Z)) (gn Z (fun hG=>Ay Try.underlying32 Z hG h_s_mem.slen) (gn Z (fun hG=>QV.fieldAddr O1 Z Z) (gn Z (fun hG=>QV.load Du Z hG (Own.cell 1 Z Z)) (gn Z (fun hG=>Ay Try.underlying22 Z hG h_l_logs.lenMap) (gn Z (fun hG=>QV.neq Z hG Z hG) (wq Z (A2 Z Z Z (fun h=>Dv h)) ?_)))))))))
 refine nt ?_
 refine wc Z hm5 (fun h6 hm7=>?_) (fun h6 hm8=>?_) <;> clear hm5
 ·skip
  refine sr (wa Z (nt (WC.ret (tr ?_))))
  obtain rfl:=(Ae hm7).symm
  exact Ar Z Z fun w hw=>kg hw
 refine sk (WQ.then (WC.seq (sr (wf Wp Z (wl N1 Z (Own.cell 0 Z Z) (wq Z (Ay Try.underlying32 Z Z h_s_bef.slen) (wm Z (nt ?_))))))))
 obtain⟨o9,ho10,hm11⟩:=Ag hm8;clear hm8;obtain⟨n12,ho13⟩:=A0 ho10
 refine Ci (H2:=[blk b2 [v_s_bef,v_s_mem] 50,blk b1 [v_l_logs,v_l_body,v_l_outs] 25,kn noM w.heap.size w w]) (τ:=[u_ 2 _,u_ 3 _,u_ 31 _,u_ 32 _]) (fun (x33_1:Int)=>[(33,(true,i_ x33_1))]) (fun x33_1=>[]) (fun x33_1 m=>B3 (Hg s) m x33_1=some o9) (fun x33_1=>o9=.go x33_1) 0 n12 ho13 ⟨Z,Z,Z,Z,Z,trivial⟩ (pk [0,1,2]) ?_ ?_
 ·skip
  rintro x33_1 rfl
  refine WQ.then (WC.seq (sr (wf Aak Z (wl N1 Z (Own.cell 0 Z Z) (wq Z (Ay Try.underlying32 Z Z h_s_mem.slen) (wm Z (nt ?_)))))))
  obtain⟨o14,ho15,hm16⟩:=Ag hm11;clear hm11;obtain⟨n17,ho18⟩:=A0 ho15
  refine Ci (H2:=[blk b2 [v_s_bef,v_s_mem] 50,blk b1 [v_l_logs,v_l_body,v_l_outs] 25,kn noM w.heap.size w w]) (τ:=[u_ 2 _,u_ 42 _,u_ 43 _]) (fun (x44_2:Int)=>[(44,(true,i_ x44_2))]) (fun x44_2=>[]) (fun x44_2 m=>B3 (Hf l s) m x44_2=some o14) (fun x44_2=>o14=.go x44_2) 0 n17 ho18 ⟨Z,Z,Z,Z,trivial⟩ (pk [0,1,2]) ?_ ?_
  ·skip
   rintro x44_2 rfl
   refine WQ.then (sr (wa Z (nt (WC.ret ?_))))
   obtain rfl:=(Ae hm16).symm
   exact Ar Z Z fun w hw=>kg hw
  rintro x44_2 m19 hI20
  obtain⟨m21,s22,rfl,hm23,hn24⟩:=Ap hI20;clear hI20;unfold Hf at hm23
  refine sr (wq Z (QV.lss Z Z Z Z) (nt (WC.seq ?_)))
  refine wc Z hm23 (fun h25 hm26=>?_) (fun h25 hm45=>?_) <;> clear hm23
  ·skip
   refine sk (WQ.then (WC.seq (WC.block (sr (wm Z ?_)))))
   obtain⟨c27,hm28⟩:=cs hm26;clear hm26
   obtain⟨p29,u31,hp30,hc32,hA33⟩:=h_s_mem.ix c27
   refine wq Z (Ad Ri Z Z Z Z hp30) (wl Nc Z (fun w hw=>CellsAt.one 0 ((Am 2 Z hk hc32) w hw) Z) (wa Z (wa Z (ns (wm Z (wq Z (Ay Try.underlying33 Z Z hA33.lenMap) (wf O1 Z (wl Du Z (Own.cell 1 Z Z) (wm Z ?_)))))))))
   obtain⟨c34,hm35⟩:=cs hm28;clear hm28
   obtain⟨p36,hp37⟩:=h_l_logs.lenMap.ix (sz:=1) Au c34
   refine wq Z (Ad Ei Z Z Z Z hp37) (wl pl3 Z (fun w hw=>CellsAt.one 0 (((Ah 2 Z hk h_l_logs) w hw).ele hp37 c34) Z) ?_)
   obtain⟨c38,hm39⟩:=cs hm35;clear hm35
   refine wq Z (QV.shlD Z Z Z Z c38) (wq Z (QV.neq Z Z Z Z) (nt ?_))
   refine wc Z hm39 (fun h40 hm41=>?_) (fun h40 hm42=>?_) <;> clear hm39
   ·skip
    refine sr (wa Z (nt (WC.ret (kr (tr (tr (kr (tr (tr ?_)))))))))
    obtain rfl:=Cy hm41 hn24
    obtain rfl:=(Ae hm16).symm
    exact Ar Z Z fun w hw=>kg hw
   refine sk (WQ.block (WQ.then (WC.region ?_)))
   obtain⟨c43,hm44⟩:=cs hm42;clear hm42
   refine wq Z (QV.add Z Z Z Z c43) (wm Z (WL.nil ?_))
   exact Ch (x44_2+1) m21 (Ax hm44 hn24) (Nat.lt_succ_self _) ⟨Z,Z,Z,Z,trivial⟩ (pk [0,1,2])
  refine WC.exit (te (te (Ai ?_)))
  exact C7 x44_2 (A6 hm45 hn24) ⟨Z,Z,Z,Z,trivial⟩ (pk [0,1,2])
 rintro x33_1 m46 hI47
 obtain⟨m48,s49,rfl,hm50,hn51⟩:=Ap hI47;clear hI47;unfold Hg at hm50
 refine sr (wq Z (QV.lss Z Z Z Z) (nt (WC.seq ?_)))
 refine wc Z hm50 (fun h52 hm53=>?_) (fun h52 hm66=>?_) <;> clear hm50
 ·skip
  refine sk (WQ.then (WC.seq (WC.block (sr ?_))))
  obtain⟨c54,hm55⟩:=cs hm53;clear hm53
  obtain⟨p56,u58,hp57,hc59,hA60⟩:=h_s_bef.ix c54
  refine wq Z (Ad Ri Z Z Z Z hp57) (wl Nc Z (fun w hw=>CellsAt.one 0 ((Am 2 Z hk hc59) w hw) Z) (wa Z (ns (wm Z (wq Z (Ay Try.underlying33 Z Z hA60.lenMap) (wq Z (QV.neq Z Z Z Z) (nt ?_)))))))
  refine wc Z hm55 (fun h61 hm62=>?_) (fun h61 hm63=>?_) <;> clear hm55
  ·skip
   refine sr (wa Z (nt (WC.ret (kr (tr (tr (kr (tr (tr ?_)))))))))
   obtain rfl:=Cy hm62 hn51
   obtain rfl:=(Ae hm11).symm
   exact Ar Z Z fun w hw=>kg hw
  refine sk (WQ.block (WQ.then (WC.region ?_)))
  obtain⟨c64,hm65⟩:=cs hm63;clear hm63
  refine wq Z (QV.add Z Z Z Z c64) (wm Z (WL.nil ?_))
  exact Ch (x33_1+1) m48 (Ax hm65 hn51) (Nat.lt_succ_self _) ⟨Z,Z,Z,Z,Z,trivial⟩ (pk [0,1,2])
 refine WC.exit (te (te (Ai ?_)))
 exact C7 x33_1 (A6 hm66 hn51) ⟨Z,Z,Z,Z,Z,trivial⟩ (pk [0,1,2])
end Go.Proofs.Ytaimbkndebaaiac
end
section
namespace Go.Proofs.Ytaimbkndebaaiac
open Go.Rd
open TNum TLoop
namespace TStable
theorem Mb:N4 Try.prog 151 3:=⟨_,Try.underlying151,rfl,by kernel_rfl⟩
theorem en119:Go.Rd.Enters Try.prog 119:=eT Try.func119
theorem Aoa:Go.Rd.Enters Try.prog 127:=eT Try.func127
theorem Va:Go.Rd.Enters Try.prog 128:=eT Try.func128
theorem en139:Go.Rd.Enters Try.prog 139:=eT Try.func139
theorem Aiy:Go.Rd.Enters Try.prog 145:=eT Try.func145
theorem Als:Go.Rd.Enters Try.prog 94:=eT Try.func94
theorem Aa7:Bw Try.prog 151 0 0:=fT 0 Try.underlying151
theorem Gu:Ia Try.prog 113 151 3:=⟨Try.underlying113,by kernel_rfl⟩
theorem U7:C8 Try.prog 151 3:=by unfold C8;kernel_rfl
end TStable
open TStable
theorem Eg {a b:Due}{r:Int} (w:World) (hm:Ca a b=some r) :Calls Try.prog 94 #[.agg #[.int .i64 a.due,.int .i64 a.reg,.int .i64 a.v],.agg #[.int .i64 b.due,.int .i64 b.reg,.int .i64 b.v]] w (fun e w'=>e=.returned (.int .i64 r)∧Grow w w'):=by
 unfold Ca at hm
 have hk:=Base.rfl (w:=w)
 refine Ak (n:=10) (args:=[.agg #[i_ a.due,i_ a.reg,i_ a.v],.agg #[i_ b.due,i_ b.reg,i_ b.v]]) Try.func94 Z Z (nl Z) ?_ (An hk (Own.start w))
 refine sr (Aa Z ?_)
 refine(Aq (by decide) Z Z (fun b1=>?_))
 refine Aa Z ?_
 refine(Aq (by decide) Z Z (fun b2=>?_))
 refine wa Z (ns (wf Aa7 Z (wl pl3 Z (Own.cell 1 Z Z) (wf Aa7 Z (wl pl3 Z (Own.cell 0 Z Z) ?_)))))
 obtain⟨c3,hm4⟩:=cs hm;clear hm
 refine wq Z (QV.sub Z Z Z Z c3) (wa Z (nt (WC.ret ?_)))
 obtain rfl:=(Ae hm4).symm
 exact Ar Z Z fun w hw=>kg hw
theorem C6 {v_data:Value}{data:List Due}{a b n_:Int}{r:List Due}{K0:World} (hm:Bh data a b n_=some r) (h_data:SliceLen v_data data.length) (M:Nat→Prop) (w:World) (hk:Base M K0 w) (hw0:Own M w [Bm v_data 151 3 (List.map Due.cells data)] w):Calls Try.prog 145 #[v_data,.int .i64 a,.int .i64 b,.int .i64 n_,.func (.func 94) #[] #[]] w (fun e w'=>∃ X:World,e=.returned (.tuple #[])∧Own M w (kn M w.heap.size K0 X::[Bm v_data 151 3 (List.map Due.cells r)]) w'∧SliceLen v_data (r).length):=by
 unfold Bh at hm
 refine Ak (n:=38) (args:=[v_data,i_ a,i_ b,i_ n_,.func (.func 94) #[] #[]]) Try.func145 Z Z (nl Z) ?_ (An hk hw0)
 refine sr (wa Z (nt ?_))
 obtain⟨o1,ho2,hm3⟩:=Ag hm;clear hm;obtain⟨n4,ho5⟩:=A0 ho2
 refine Bz (H2:=[kn M w.heap.size K0 K0]) (τ:=[u_ 0 _,u_ 1 _,u_ 2 _,u_ 3 _]) (fun (ows0_1:List Due) (i10_1:Int)=>[(10,(true,i_ i10_1))]) (fun ows0_1 i10_1=>[Bm v_data 151 3 (List.map Due.cells ows0_1)]) (fun ows0_1 i10_1 m=>B3 (Bg a b n_) m (ows0_1,i10_1)=some o1∧SliceLen v_data ows0_1.length) (fun ows0_1 i10_1=>o1=.go (ows0_1,i10_1)∧SliceLen v_data ows0_1.length) data 0 n4 ⟨ho5,h_data⟩ ⟨Z,Z,Z,Z,Z,trivial⟩ (pk [1,0]) ?_ ?_
 ·skip
  rintro ows0_1 i10_1 ⟨rfl,hlows0_1⟩
  obtain rfl:=(Ae hm3).symm
  refine F6 Z (fun w hw=>?_)
  exact⟨K0,Z,hw.pick [1,0] (by decide),hlows0_1⟩
 rintro ows0_1 i10_1 m6 ⟨hI7,hlows0_1⟩
 obtain⟨m8,s9,rfl,hm10,hn11⟩:=Ap hI7;clear hI7;unfold Bg at hm10;simp only at hm10
 refine WC.seq (sr (wm Z (wm Z (wq Z (QV.lss Z Z Z Z) (nt ?_)))))
 refine wc Z hm10 (fun h12 hm13=>?_) (fun h12 hm42=>?_) <;> clear hm10
 ·skip
  refine sk (WQ.then (WC.seq (WC.block (Aao (m:=24) (fun i=>[4,5,6,7].contains i) (by kernel_rfl) (by kernel_rfl) (by kernel_rfl) ?_))))
  refine WT.q 0 0 1 Z (by kernel_rfl) Z Z Z Z (QV.move Z Z) ?_
  refine WT.q 1 1 3 Z (by kernel_rfl) Z Z Z Z (QV.move Z Z) ?_
  refine WT.q 2 3 7 Z (by kernel_rfl) Z Z Z Z (QV.move Z Z) ?_
  obtain⟨c14,c16,c18,c20,hm21⟩:=cs4 hm13;clear hm13
  refine WT.q 3 7 15 Z (by kernel_rfl) Z Z Z Z (QV.add Z Z Z Z c14) ?_
  refine N6 4 15 31 Z (by kernel_rfl) Z Z Z (QV.move Z Z) ?_
  refine N6 5 31 63 Z (by kernel_rfl) Z Z Z (QV.move Z Z) ?_
  refine N6 6 63 127 Z (by kernel_rfl) Z Z Z (QV.move Z Z) ?_
  refine N6 7 127 255 Z (by kernel_rfl) Z Z Z (QV.add Z Z Z Z c16) ?_
  refine WT.q 8 255 511 Z (by kernel_rfl) Z Z Z Z (QV.move Z Z) ?_
  refine WT.q 9 511 1023 Z (by kernel_rfl) Z Z Z Z (QV.move Z Z) ?_
  refine WT.q 10 1023 2047 Z (by kernel_rfl) Z Z Z Z (QV.move Z Z) ?_
  refine WT.q 11 2047 4095 Z (by kernel_rfl) Z Z Z Z (QV.add Z Z Z Z c18) ?_
  obtain⟨p22,hp23⟩:=hlows0_1.ix (sz:=3) Au c20
  refine WT.q 12 4095 8191 Z (by kernel_rfl) Z Z Z Z (Ad Gu Z Z Z Z hp23) ?_
  refine WT.q 13 8191 16383 Z (by kernel_rfl) Z Z Z Z (Ac Mb Z Z Z (fun w hw=>((Cj 0 Z) w hw).ele hp23 c20)) ?_
  refine WT.q 14 16383 32767 Z (by kernel_rfl) Z Z Z Z (QV.move Z Z) ?_
  refine WT.q 15 32767 65535 Z (by kernel_rfl) Z Z Z Z (QV.move Z Z) ?_
  refine WT.q 16 65535 131071 Z (by kernel_rfl) Z Z Z Z (QV.move Z Z) ?_
  obtain⟨c24,c26,hm27⟩:=cs2 hm21;clear hm21
  refine WT.q 17 131071 262143 Z (by kernel_rfl) Z Z Z Z (QV.add Z Z Z Z c24) ?_
  obtain⟨p28,hp29⟩:=hlows0_1.ix (sz:=3) Au c26
  refine WT.q 18 262143 524287 Z (by kernel_rfl) Z Z Z Z (Ad Gu Z Z Z Z hp29) ?_
  refine WT.q 19 524287 1048575 Z (by kernel_rfl) Z Z Z Z (Ac Mb Z Z Z (fun w hw=>((Cj 0 Z) w hw).ele hp29 c26)) ?_
  obtain⟨c30,hm31⟩:=cs hm27;clear hm27
  obtain⟨p32,hp33⟩:=hlows0_1.ix (sz:=3) Au c30
  refine WT.q 20 1048575 2097151 Z (by kernel_rfl) Z Z Z Z (Ad Gu Z Z Z Z hp33) ?_
  have hl34:SliceLen v_data (upd ows0_1 (a+i10_1) (ele ows0_1 (b+i10_1))).length:=Fm hlows0_1
  refine WT.o (H':=[Bm v_data 151 3 (List.map Due.cells (upd ows0_1 (a+i10_1) (ele ows0_1 (b+i10_1)))),kn M w.heap.size K0 K0]) 21 2097151 4194303 Z (by kernel_rfl) Z (by kernel_rfl) ?_ ?_
  ·skip
   refine(Ig (enc:=Due.cells) (off:=0) (vs:=[i_ ((ele ows0_1 (b+i10_1)).due),i_ ((ele ows0_1 (b+i10_1)).reg),i_ ((ele ows0_1 (b+i10_1)).v)]) 0 (ele ows0_1 (b+i10_1)) rfl rfl rfl rfl rfl hp33 c30 (by first | rfl | exact I4 _) (show Value.cells _=List.toArray _ from rfl) U7 (nl rfl) (oc rfl (oc rfl (oc rfl Aw))) rfl ?_)
   exact WT.b (fun w hw=>hw)
  obtain⟨c35,hm36⟩:=cs hm31;clear hm31
  obtain⟨p37,hp38⟩:=hl34.ix (sz:=3) Au c35
  refine WT.q 22 4194303 8388607 Z (by kernel_rfl) Z Z Z Z (Ad Gu Z Z Z Z hp38) ?_
  refine WT.l 23 8388607 16777215 Z (by kernel_rfl) Z ?_
  refine(Ig (enc:=Due.cells) (off:=0) (vs:=[i_ ((ele ows0_1 (a+i10_1)).due),i_ ((ele ows0_1 (a+i10_1)).reg),i_ ((ele ows0_1 (a+i10_1)).v)]) 0 (ele ows0_1 (a+i10_1)) rfl rfl rfl rfl rfl hp38 c35 (by first | rfl | exact I4 _) (show Value.cells _=List.toArray _ from rfl) U7 (nl rfl) (oc rfl (oc rfl (oc rfl Aw))) rfl ?_)
  have hl39:SliceLen v_data (upd (upd ows0_1 (a+i10_1) (ele ows0_1 (b+i10_1))) (b+i10_1) (ele ows0_1 (a+i10_1))).length:=Fm hl34
  refine WQ.block (WQ.then (WC.region (wm Z ?_)))
  obtain⟨c40,hm41⟩:=cs hm36;clear hm36
  refine wq Z (QV.add Z Z Z Z c40) (wa Z (WL.nil ?_))
  exact Bn (upd (upd ows0_1 (a+i10_1) (ele ows0_1 (b+i10_1))) (b+i10_1) (ele ows0_1 (a+i10_1))) (i10_1+1) m8 ⟨Ax hm41 hn11,hl39⟩ (Nat.lt_succ_self _) ⟨Z,Z,Z,Z,Z,trivial⟩ (pk [0,1])
 refine WC.exit (te (te (Ai ?_)))
 exact Cb ows0_1 i10_1 ⟨A6 hm42 hn11,hlows0_1⟩ ⟨Z,Z,Z,Z,Z,trivial⟩ (pk [0,1])
theorem Jh {v_data:Value}{data:List Due}{a m_ b:Int}{r:List Due}{K0:World} (hm:B7 data a m_ b=some r) (h_data:SliceLen v_data data.length) (M:Nat→Prop) (w:World) (hk:Base M K0 w) (hw0:Own M w [Bm v_data 151 3 (List.map Due.cells data)] w):Calls Try.prog 139 #[v_data,.int .i64 a,.int .i64 m_,.int .i64 b,.func (.func 94) #[] #[]] w (fun e w'=>∃ X:World,e=.returned (.tuple #[])∧Own M w (kn M w.heap.size K0 X::[Bm v_data 151 3 (List.map Due.cells r)]) w'∧SliceLen v_data (r).length):=by
 unfold B7 at hm
 refine Ak (n:=58) (args:=[v_data,i_ a,i_ m_,i_ b,.func (.func 94) #[] #[]]) Try.func139 Z Z (nl Z) ?_ (An hk hw0)
 refine sr (wm Z (wm Z ?_))
 obtain⟨c1,c3,hm4⟩:=cs2 hm;clear hm
 refine wq Z (QV.sub Z Z Z Z c1) (wa Z (ns (wm Z (wm Z (wq Z (QV.sub Z Z Z Z c3) (wa Z (nt (WC.seq ?_))))))))
 obtain⟨o5,ho6,hm7⟩:=Ag hm4;clear hm4;obtain⟨n8,ho9⟩:=A0 ho6
 refine I5 (H2:=[]) (τ:=[u_ 0 _,u_ 2 _,u_ 4 _]) (fun (ows0_1:List Due) (i10_1:Int) (j11_1:Int) (k_1:World)=>[(10,(true,i_ i10_1)),(11,(true,i_ j11_1))]) (fun ows0_1 i10_1 j11_1 k_1=>[kn M w.heap.size K0 k_1,Bm v_data 151 3 (List.map Due.cells ows0_1)]) (fun ows0_1 i10_1 j11_1 k_1 m=>B3 (Bl m_) m (ows0_1,i10_1,j11_1)=some o5∧SliceLen v_data ows0_1.length∧Le K0 k_1) (fun ows0_1 i10_1 j11_1 k_1=>o5=.go (ows0_1,i10_1,j11_1)∧SliceLen v_data ows0_1.length∧Le K0 k_1) data (m_ - a) (b - m_) K0 n8 ⟨ho9,h_data,(Le.refl _)⟩ ⟨Z,Z,Z,Z,Z,trivial⟩ (pk [0,1]) ?_ ?_
 ·skip
  rintro ows0_1 i10_1 j11_1 k_1 ⟨rfl,hlows0_1,hle_1⟩
  refine WQ.then (WC.region (wm Z (wm Z (wm Z ?_))))
  obtain⟨c10,hm11⟩:=cs hm7;clear hm7
  refine wq Z (QV.sub Z Z Z Z c10) (wm Z (wm Z (wm Z (Aa Z ?_))))
  obtain⟨x12,hx13,hm14⟩:=Ag hm11;clear hm11
  refine(A4 (X:=World) (R:=[Bm v_data 151 3 (List.map Due.cells ows0_1)]) (fun X=>.tuple #[]) (fun X=>[Bm v_data 151 3 (List.map Due.cells x12)]) (fun X=>X) (fun X=>SliceLen v_data (x12).length) hk (fun _ h=>by cases h;decide) Aiy (ec Z (ec Z (ec Z (ec Z (ec Z eN))))) (fun M w h1 h2=>have h:=C6 hx13 hlows0_1 M w h1 h2;h) (fun X15 hF15 hle15=>?_))
  refine WL.nil ?_
  obtain rfl:=(Ae hm14).symm
  refine F6 Z (fun w hw=>?_)
  exact⟨X15,Z,hw.pick [0,1] (by decide),hF15⟩
 rintro ows0_1 i10_1 j11_1 k_1 m16 ⟨hI17,hlows0_1,hle_1⟩
 obtain⟨m18,s19,rfl,hm20,hn21⟩:=Ap hI17;clear hI17;unfold Bl at hm20;simp only at hm20
 refine WC.seq (sr (wm Z (wm Z (wq Z (QV.neq Z Z Z Z) (nt ?_)))))
 refine wc Z hm20 (fun h22 hm23=>?_) (fun h22 hm47=>?_) <;> clear hm20
 ·skip
  refine sk (WQ.then (WC.block (sr (wm Z (wm Z (wq Z (QV.gtr Z Z Z Z) (nt ?_)))))))
  refine wc Z hm23 (fun h24 hm25=>?_) (fun h24 hm34=>?_) <;> clear hm23
  ·skip
   refine sr (wm Z (wm Z (wm Z ?_)))
   obtain⟨c26,hm27⟩:=cs hm25;clear hm25
   refine wq Z (QV.sub Z Z Z Z c26) (wm Z (wm Z (wm Z (Aa Z ?_))))
   obtain⟨x28,hx29,hm30⟩:=Ag hm27;clear hm27
   refine(A4 (X:=World) (R:=[Bm v_data 151 3 (List.map Due.cells ows0_1)]) (fun X=>.tuple #[]) (fun X=>[Bm v_data 151 3 (List.map Due.cells x28)]) (fun X=>X) (fun X=>SliceLen v_data (x28).length) hk (fun _ h=>by cases h;decide) Aiy (ec Z (ec Z (ec Z (ec Z (ec Z eN))))) (fun M w h1 h2=>have h:=C6 hx29 hlows0_1 M w h1 h2;h) (fun X31 hF31 hle31=>?_))
   refine nr (wm Z (wm Z ?_))
   obtain⟨c32,hm33⟩:=cs hm30;clear hm30
   refine wq Z (QV.sub Z Z Z Z c32) (wa Z (WL.nil (WQ.block ?_)))
   exact Ev x28 (i10_1 - j11_1) j11_1 X31 m18 ⟨Ax hm33 hn21,hF31,(hle_1.trans hle31)⟩ (Nat.lt_succ_self _) ⟨Z,Z,Z,Z,Z,trivial⟩ (pk [0,1])
  refine sr (wm Z (wm Z (wm Z ?_)))
  obtain⟨c35,c37,c39,hm40⟩:=cs3 hm34;clear hm34
  refine wq Z (QV.sub Z Z Z Z c35) (wm Z (wm Z (wq Z (QV.add Z Z Z Z c37) (wm Z (wq Z (QV.sub Z Z Z Z c39) (wm Z (wm Z (Aa Z ?_))))))))
  obtain⟨x41,hx42,hm43⟩:=Ag hm40;clear hm40
  refine(A4 (X:=World) (R:=[Bm v_data 151 3 (List.map Due.cells ows0_1)]) (fun X=>.tuple #[]) (fun X=>[Bm v_data 151 3 (List.map Due.cells x41)]) (fun X=>X) (fun X=>SliceLen v_data (x41).length) hk (fun _ h=>by cases h;decide) Aiy (ec Z (ec Z (ec Z (ec Z (ec Z eN))))) (fun M w h1 h2=>have h:=C6 hx42 hlows0_1 M w h1 h2;h) (fun X44 hF44 hle44=>?_))
  refine nr (wm Z (wm Z ?_))
  obtain⟨c45,hm46⟩:=cs hm43;clear hm43
  refine wq Z (QV.sub Z Z Z Z c45) (wa Z (WL.nil (WQ.block ?_)))
  exact Ev x41 i10_1 (j11_1 - i10_1) X44 m18 ⟨Ax hm46 hn21,hF44,(hle_1.trans hle44)⟩ (Nat.lt_succ_self _) ⟨Z,Z,Z,Z,Z,trivial⟩ (pk [0,1])
 refine WC.exit (te (te (Ai ?_)))
 exact Ko ows0_1 i10_1 j11_1 k_1 ⟨A6 hm47 hn21,hlows0_1,hle_1⟩ ⟨Z,Z,Z,Z,Z,trivial⟩ (pk [0,1])
theorem Ds {v_data:Value}{data:List Due}{a b:Int}{r:List Due}{K0:World} (hm:A1 data a b=some r) (h_data:SliceLen v_data data.length) (M:Nat→Prop) (w:World) (hk:Base M K0 w) (hw0:Own M w [Bm v_data 151 3 (List.map Due.cells data)] w):Calls Try.prog 127 #[v_data,.int .i64 a,.int .i64 b,.func (.func 94) #[] #[]] w (fun e w'=>∃ X:World,e=.returned (.tuple #[])∧Own M w (kn M w.heap.size K0 X::[Bm v_data 151 3 (List.map Due.cells r)]) w'∧SliceLen v_data (r).length):=by
 unfold A1 at hm
 refine Ak (n:=53) (args:=[v_data,i_ a,i_ b,.func (.func 94) #[] #[]]) Try.func127 Z Z (nl Z) ?_ (An hk hw0)
 refine sr (wm Z ?_)
 obtain⟨c1,hm2⟩:=cs hm;clear hm
 refine wq Z (QV.add Z Z Z Z c1) (wa Z (nt ?_))
 obtain⟨o3,ho4,hm5⟩:=Ag hm2;clear hm2;obtain⟨n6,ho7⟩:=A0 ho4
 refine Bz (H2:=[kn M w.heap.size K0 K0]) (τ:=[u_ 0 _,u_ 1 _,u_ 2 _,u_ 3 _]) (fun (ows0_3:List Due) (i8_3:Int)=>[(8,(true,i_ i8_3))]) (fun ows0_3 i8_3=>[Bm v_data 151 3 (List.map Due.cells ows0_3)]) (fun ows0_3 i8_3 m=>B3 (A5 a b) m (ows0_3,i8_3)=some o3∧SliceLen v_data ows0_3.length) (fun ows0_3 i8_3=>o3=.go (ows0_3,i8_3)∧SliceLen v_data ows0_3.length) data (a+1) n6 ⟨ho7,h_data⟩ ⟨Z,Z,Z,Z,Z,trivial⟩ (pk [1,0]) ?_ ?_
 ·skip
  rintro ows0_3 i8_3 ⟨rfl,hlows0_3⟩
  obtain rfl:=(Ae hm5).symm
  refine F6 Z (fun w hw=>?_)
  exact⟨K0,Z,hw.pick [1,0] (by decide),hlows0_3⟩
 rintro ows0_3 i8_3 m8 ⟨hI9,hlows0_3⟩
 obtain⟨m10,s11,rfl,hm12,hn13⟩:=Ap hI9;clear hI9;unfold A5 at hm12;simp only at hm12
 refine WC.seq (sr (wm Z (wm Z (wq Z (QV.lss Z Z Z Z) (nt ?_)))))
 refine wc Z hm12 (fun h14 hm15=>?_) (fun h14 hm69=>?_) <;> clear hm12
 ·skip
  refine sk (WQ.then (WC.seq (WC.block (sr (wm Z (wa Z (nt ?_)))))))
  obtain⟨o16,ho17,hm18⟩:=Ag hm15;clear hm15;obtain⟨n19,ho20⟩:=A0 ho17
  refine Bz (H2:=[kn M w.heap.size K0 K0]) (τ:=[u_ 0 _,u_ 1 _,u_ 2 _,u_ 3 _,u_ 8 _]) (fun (ows0_4:List Due) (j9_4:Int)=>[(9,(true,i_ j9_4))]) (fun ows0_4 j9_4=>[Bm v_data 151 3 (List.map Due.cells ows0_4)]) (fun ows0_4 j9_4 m=>B3 (A9 a) m (ows0_4,j9_4)=some o16∧SliceLen v_data ows0_4.length) (fun ows0_4 j9_4=>o16=.go (ows0_4,j9_4)∧SliceLen v_data ows0_4.length) ows0_3 i8_3 n19 ⟨ho20,hlows0_3⟩ ⟨Z,Z,Z,Z,Z,Z,trivial⟩ (pk [0,1]) ?_ ?_
  ·skip
   rintro ows0_4 j9_4 ⟨rfl,hlows0_4⟩
   refine WQ.block (WQ.then (WC.region (wm Z ?_)))
   obtain⟨c21,hm22⟩:=cs hm18;clear hm18
   refine wq Z (QV.add Z Z Z Z c21) (wa Z (WL.nil ?_))
   exact Bn ows0_4 (i8_3+1) m10 ⟨Ax hm22 hn13,hlows0_4⟩ (Nat.lt_succ_self _) ⟨Z,Z,Z,Z,Z,trivial⟩ (pk [0,1])
  rintro ows0_4 j9_4 m23 ⟨hI24,hlows0_4⟩
  obtain⟨m25,s26,rfl,hm27,hn28⟩:=Ap hI24;clear hI24;unfold A9 at hm27;simp only at hm27
  refine WC.seq (WC.seq (B9 (m:=17) (S:=Own M w [kn M w.heap.size K0 K0,Bm v_data 151 3 (List.map Due.cells ows0_4)]) (by kernel_rfl) (by kernel_rfl) (pk [1,0]) (zm 0 Z Z (zm 1 Z Z (wz 2 Z Z (QV.gtr Z Z Z Z) (zm 3 Z Z (zp 4 Z Z (fun hG=>QV.move Z Z) (zp 5 Z Z (fun hG=>QV.move Z Z) (zp 6 Z Z (fun hG=>QV.move Z Z) ?_)))))))))
  obtain⟨c29,hm30⟩:=cs hm27;clear hm27
  obtain⟨p31,hp32⟩:=hlows0_4.ixG (sz:=3) Au c29
  refine zp 7 Z Z (fun hG=>Ad Gu Z hG Z hG (hp32 hG)) (zp 8 Z Z (fun hG=>Ac Mb Z Z hG (fun w hw=>((Cj 1 Z) w hw).ele (hp32 hG) (c29 hG))) (zp 9 Z Z (fun hG=>QV.move Z Z) (zp 10 Z Z (fun hG=>QV.move Z Z) ?_)))
  obtain⟨c33,c35,hm36⟩:=cs2 hm30;clear hm30
  refine zp 11 Z Z (fun hG=>QV.sub Z hG Z Z (c33 hG)) ?_
  obtain⟨p37,hp38⟩:=hlows0_4.ixG (sz:=3) Au c35
  refine zp 12 Z Z (fun hG=>Ad Gu Z hG Z hG (hp38 hG)) (zp 13 Z Z (fun hG=>Ac Mb Z Z hG (fun w hw=>((Cj 1 Z) w hw).ele (hp38 hG) (c35 hG))) ?_)
  obtain⟨x39,hx40,hm41⟩:=Ce hm36;clear hm36
  refine zp 14 Z Z (fun hG=>Jr Als Z hG (EvAll.cons Z hG (EvAll.cons Z hG eN)) (fun w hw=>have h:=Eg w (hx40 hG) ;h)) (zp 15 Z Z (fun hG=>QV.lss Z hG Z Z) (wz 16 Z Z (Az Z Z Z (fun h=>h)) ?_))
  refine WD.e (by kernel_rfl) ?_
  refine WQ.then ?_
  refine wc Z hm41 (fun h42 hm43=>?_) (fun h42 hm68=>?_) <;> clear hm41
  ·skip
   refine sk (WQ.then (WC.seq (WC.block (Aao (m:=18) (fun i=>[2,3,4].contains i) (by kernel_rfl) (by kernel_rfl) (by kernel_rfl) ?_))))
   refine WT.q 0 0 1 Z (by kernel_rfl) Z Z Z Z (QV.move Z Z) ?_
   refine WT.q 1 1 3 Z (by kernel_rfl) Z Z Z Z (QV.move Z Z) ?_
   refine N6 2 3 7 Z (by kernel_rfl) Z Z Z (QV.move Z Z) ?_
   refine N6 3 7 15 Z (by kernel_rfl) Z Z Z (QV.move Z Z) ?_
   obtain⟨c44,c46,c48,hm49⟩:=cs3 hm43;clear hm43
   refine N6 4 15 31 Z (by kernel_rfl) Z Z Z (QV.sub Z Z Z Z c44) ?_
   refine WT.q 5 31 63 Z (by kernel_rfl) Z Z Z Z (QV.move Z Z) ?_
   refine WT.q 6 63 127 Z (by kernel_rfl) Z Z Z Z (QV.move Z Z) ?_
   refine WT.q 7 127 255 Z (by kernel_rfl) Z Z Z Z (QV.sub Z Z Z Z c46) ?_
   obtain⟨p50,hp51⟩:=hlows0_4.ix (sz:=3) Au c48
   refine WT.q 8 255 511 Z (by kernel_rfl) Z Z Z Z (Ad Gu Z Z Z Z hp51) ?_
   refine WT.q 9 511 1023 Z (by kernel_rfl) Z Z Z Z (Ac Mb Z Z Z (fun w hw=>((Cj 0 Z) w hw).ele hp51 c48)) ?_
   refine WT.q 10 1023 2047 Z (by kernel_rfl) Z Z Z Z (QV.move Z Z) ?_
   refine WT.q 11 2047 4095 Z (by kernel_rfl) Z Z Z Z (QV.move Z Z) ?_
   obtain⟨c52,hm53⟩:=cs hm49;clear hm49
   obtain⟨p54,hp55⟩:=hlows0_4.ix (sz:=3) Au c52
   refine WT.q 12 4095 8191 Z (by kernel_rfl) Z Z Z Z (Ad Gu Z Z Z Z hp55) ?_
   refine WT.q 13 8191 16383 Z (by kernel_rfl) Z Z Z Z (Ac Mb Z Z Z (fun w hw=>((Cj 0 Z) w hw).ele hp55 c52)) ?_
   obtain⟨c56,hm57⟩:=cs hm53;clear hm53
   obtain⟨p58,hp59⟩:=hlows0_4.ix (sz:=3) Au c56
   refine WT.q 14 16383 32767 Z (by kernel_rfl) Z Z Z Z (Ad Gu Z Z Z Z hp59) ?_
   have hl60:SliceLen v_data (upd ows0_4 j9_4 (ele ows0_4 (j9_4 - 1))).length:=Fm hlows0_4
   refine WT.o (H':=[Bm v_data 151 3 (List.map Due.cells (upd ows0_4 j9_4 (ele ows0_4 (j9_4 - 1)))),kn M w.heap.size K0 K0]) 15 32767 65535 Z (by kernel_rfl) Z (by kernel_rfl) ?_ ?_
   ·skip
    refine(Ig (enc:=Due.cells) (off:=0) (vs:=[i_ ((ele ows0_4 (j9_4 - 1)).due),i_ ((ele ows0_4 (j9_4 - 1)).reg),i_ ((ele ows0_4 (j9_4 - 1)).v)]) 0 (ele ows0_4 (j9_4 - 1)) rfl rfl rfl rfl rfl hp59 c56 (by first | rfl | exact I4 _) (show Value.cells _=List.toArray _ from rfl) U7 (nl rfl) (oc rfl (oc rfl (oc rfl Aw))) rfl ?_)
    exact WT.b (fun w hw=>hw)
   obtain⟨c61,hm62⟩:=cs hm57;clear hm57
   obtain⟨p63,hp64⟩:=hl60.ix (sz:=3) Au c61
   refine WT.q 16 65535 131071 Z (by kernel_rfl) Z Z Z Z (Ad Gu Z Z Z Z hp64) ?_
   refine WT.l 17 131071 262143 Z (by kernel_rfl) Z ?_
   refine(Ig (enc:=Due.cells) (off:=0) (vs:=[i_ ((ele ows0_4 j9_4).due),i_ ((ele ows0_4 j9_4).reg),i_ ((ele ows0_4 j9_4).v)]) 0 (ele ows0_4 j9_4) rfl rfl rfl rfl rfl hp64 c61 (by first | rfl | exact I4 _) (show Value.cells _=List.toArray _ from rfl) U7 (nl rfl) (oc rfl (oc rfl (oc rfl Aw))) rfl ?_)
   have hl65:SliceLen v_data (upd (upd ows0_4 j9_4 (ele ows0_4 (j9_4 - 1))) (j9_4 - 1) (ele ows0_4 j9_4)).length:=Fm hl60
   refine WQ.block (WQ.then (WC.region (wm Z ?_)))
   obtain⟨c66,hm67⟩:=cs hm62;clear hm62
   refine wq Z (QV.sub Z Z Z Z c66) (wa Z (WL.nil ?_))
   exact Bn (upd (upd ows0_4 j9_4 (ele ows0_4 (j9_4 - 1))) (j9_4 - 1) (ele ows0_4 j9_4)) (j9_4 - 1) m25 ⟨Ax hm67 hn28,hl65⟩ (Nat.lt_succ_self _) ⟨Z,Z,Z,Z,Z,Z,trivial⟩ (pk [0,1])
  refine WC.exit (te (te (Ai ?_)))
  exact Cb ows0_4 j9_4 ⟨A6 hm68 hn28,hlows0_4⟩ ⟨Z,Z,Z,Z,Z,Z,trivial⟩ (pk [0,1])
 refine WC.exit (te (te (Ai ?_)))
 exact Cb ows0_3 i8_3 ⟨A6 hm69 hn13,hlows0_3⟩ ⟨Z,Z,Z,Z,Z,trivial⟩ (pk [0,1])
theorem D9:∀ (fl:Nat) {v_data:Value}{data:List Due}{a m_ b:Int}{r:List Due}{K0:World} (hm:Al fl data a m_ b=some r) (h_data:SliceLen v_data data.length) (M:Nat→Prop) (w:World) (hk:Base M K0 w) (hw0:Own M w [Bm v_data 151 3 (List.map Due.cells data)] w),Calls Try.prog 128 #[v_data,.int .i64 a,.int .i64 m_,.int .i64 b,.func (.func 94) #[] #[]] w (fun e w'=>∃ X:World,e=.returned (.tuple #[])∧Own M w (kn M w.heap.size K0 X::[Bm v_data 151 3 (List.map Due.cells r)]) w'∧SliceLen v_data (r).length):=by
 intro fl;induction fl with
 | zero=>intro v_data data a m_ b r K0 hm;cases hm
 | succ fl IH =>
  intro v_data data a m_ b r K0 hm h_data M w hk hw0
  unfold Al at hm
  refine Ak (n:=220) (args:=[v_data,i_ a,i_ m_,i_ b,.func (.func 94) #[] #[]]) Try.func128 Z Z (nl Z) ?_ (An hk hw0)
  refine WC.seq (sr (wm Z (wm Z ?_)))
  obtain⟨c1,hm2⟩:=cs hm;clear hm
  refine wq Z (QV.sub Z Z Z Z c1) (wq Z (QV.eql Z Z Z Z) (nt ?_))
  refine wc Z hm2 (fun h3 hm4=>?_) (fun h3 hm77=>?_) <;> clear hm2
  ·skip
   refine sr (wm Z (wa Z (ns (wm Z (wa Z (nt (WC.seq ?_)))))))
   obtain⟨o5,ho6,hm7⟩:=Ag hm4;clear hm4;obtain⟨n8,ho9⟩:=A0 ho6
   refine Bz (H2:=[kn M w.heap.size K0 K0,Bm v_data 151 3 (List.map Due.cells data)]) (τ:=[u_ 0 _,u_ 1 _,u_ 4 _]) (fun (i10_1:Int) (j11_1:Int)=>[(10,(true,i_ i10_1)),(11,(true,i_ j11_1))]) (fun i10_1 j11_1=>[]) (fun i10_1 j11_1 m=>B3 (Bs data a) m (i10_1,j11_1)=some o5) (fun i10_1 j11_1=>o5=.go (i10_1,j11_1)) m_ b n8 ho9 ⟨Z,Z,Z,Z,Z,trivial⟩ (pk [0,1]) ?_ ?_
   ·skip
    rintro i10_1 j11_1 rfl
    refine WQ.then (WC.seq (sr (wm Z (wa Z (nt ?_)))))
    obtain⟨o10,ho11,hm12⟩:=Ag hm7;clear hm7;obtain⟨n13,ho14⟩:=A0 ho11
    refine Bz (H2:=[kn M w.heap.size K0 K0]) (τ:=[u_ 0 _,u_ 10 _]) (fun (ows0_2:List Due) (k13_2:Int)=>[(13,(true,i_ k13_2))]) (fun ows0_2 k13_2=>[Bm v_data 151 3 (List.map Due.cells ows0_2)]) (fun ows0_2 k13_2 m=>B3 (Br i10_1) m (ows0_2,k13_2)=some o10∧SliceLen v_data ows0_2.length) (fun ows0_2 k13_2=>o10=.go (ows0_2,k13_2)∧SliceLen v_data ows0_2.length) data a n13 ⟨ho14,h_data⟩ ⟨Z,Z,Z,trivial⟩ (pk [1,0]) ?_ ?_
    ·skip
     rintro ows0_2 k13_2 ⟨rfl,hlows0_2⟩
     refine WQ.then (WC.ret (tr ?_))
     obtain rfl:=(Ae hm12).symm
     refine Agf Z (fun w hw=>?_)
     exact⟨K0,Z,hw.pick [1,0] (by decide),hlows0_2⟩
    rintro ows0_2 k13_2 m15 ⟨hI16,hlows0_2⟩
    obtain⟨m17,s18,rfl,hm19,hn20⟩:=Ap hI16;clear hI16;unfold Br at hm19;simp only at hm19
    refine WC.seq (sr (wm Z (wm Z ?_)))
    obtain⟨c21,hm22⟩:=cs hm19;clear hm19
    refine wq Z (QV.sub Z Z Z Z c21) (wq Z (QV.lss Z Z Z Z) (nt ?_))
    refine wc Z hm22 (fun h23 hm24=>?_) (fun h23 hm49=>?_) <;> clear hm22
    ·skip
     refine sk (WQ.then (WC.seq (WC.block (Aao (m:=18) (fun i=>[2,3,4].contains i) (by kernel_rfl) (by kernel_rfl) (by kernel_rfl) ?_))))
     refine WT.q 0 0 1 Z (by kernel_rfl) Z Z Z Z (QV.move Z Z) ?_
     refine WT.q 1 1 3 Z (by kernel_rfl) Z Z Z Z (QV.move Z Z) ?_
     refine N6 2 3 7 Z (by kernel_rfl) Z Z Z (QV.move Z Z) ?_
     refine N6 3 7 15 Z (by kernel_rfl) Z Z Z (QV.move Z Z) ?_
     obtain⟨c25,c27,c29,hm30⟩:=cs3 hm24;clear hm24
     refine N6 4 15 31 Z (by kernel_rfl) Z Z Z (QV.add Z Z Z Z c25) ?_
     refine WT.q 5 31 63 Z (by kernel_rfl) Z Z Z Z (QV.move Z Z) ?_
     refine WT.q 6 63 127 Z (by kernel_rfl) Z Z Z Z (QV.move Z Z) ?_
     refine WT.q 7 127 255 Z (by kernel_rfl) Z Z Z Z (QV.add Z Z Z Z c27) ?_
     obtain⟨p31,hp32⟩:=hlows0_2.ix (sz:=3) Au c29
     refine WT.q 8 255 511 Z (by kernel_rfl) Z Z Z Z (Ad Gu Z Z Z Z hp32) ?_
     refine WT.q 9 511 1023 Z (by kernel_rfl) Z Z Z Z (Ac Mb Z Z Z (fun w hw=>((Cj 0 Z) w hw).ele hp32 c29)) ?_
     refine WT.q 10 1023 2047 Z (by kernel_rfl) Z Z Z Z (QV.move Z Z) ?_
     refine WT.q 11 2047 4095 Z (by kernel_rfl) Z Z Z Z (QV.move Z Z) ?_
     obtain⟨c33,hm34⟩:=cs hm30;clear hm30
     obtain⟨p35,hp36⟩:=hlows0_2.ix (sz:=3) Au c33
     refine WT.q 12 4095 8191 Z (by kernel_rfl) Z Z Z Z (Ad Gu Z Z Z Z hp36) ?_
     refine WT.q 13 8191 16383 Z (by kernel_rfl) Z Z Z Z (Ac Mb Z Z Z (fun w hw=>((Cj 0 Z) w hw).ele hp36 c33)) ?_
     obtain⟨c37,hm38⟩:=cs hm34;clear hm34
     obtain⟨p39,hp40⟩:=hlows0_2.ix (sz:=3) Au c37
     refine WT.q 14 16383 32767 Z (by kernel_rfl) Z Z Z Z (Ad Gu Z Z Z Z hp40) ?_
     have hl41:SliceLen v_data (upd ows0_2 k13_2 (ele ows0_2 (k13_2+1))).length:=Fm hlows0_2
     refine WT.o (H':=[Bm v_data 151 3 (List.map Due.cells (upd ows0_2 k13_2 (ele ows0_2 (k13_2+1)))),kn M w.heap.size K0 K0]) 15 32767 65535 Z (by kernel_rfl) Z (by kernel_rfl) ?_ ?_
     ·skip
      refine(Ig (enc:=Due.cells) (off:=0) (vs:=[i_ ((ele ows0_2 (k13_2+1)).due),i_ ((ele ows0_2 (k13_2+1)).reg),i_ ((ele ows0_2 (k13_2+1)).v)]) 0 (ele ows0_2 (k13_2+1)) rfl rfl rfl rfl rfl hp40 c37 (by first | rfl | exact I4 _) (show Value.cells _=List.toArray _ from rfl) U7 (nl rfl) (oc rfl (oc rfl (oc rfl Aw))) rfl ?_)
      exact WT.b (fun w hw=>hw)
     obtain⟨c42,hm43⟩:=cs hm38;clear hm38
     obtain⟨p44,hp45⟩:=hl41.ix (sz:=3) Au c42
     refine WT.q 16 65535 131071 Z (by kernel_rfl) Z Z Z Z (Ad Gu Z Z Z Z hp45) ?_
     refine WT.l 17 131071 262143 Z (by kernel_rfl) Z ?_
     refine(Ig (enc:=Due.cells) (off:=0) (vs:=[i_ ((ele ows0_2 k13_2).due),i_ ((ele ows0_2 k13_2).reg),i_ ((ele ows0_2 k13_2).v)]) 0 (ele ows0_2 k13_2) rfl rfl rfl rfl rfl hp45 c42 (by first | rfl | exact I4 _) (show Value.cells _=List.toArray _ from rfl) U7 (nl rfl) (oc rfl (oc rfl (oc rfl Aw))) rfl ?_)
     have hl46:SliceLen v_data (upd (upd ows0_2 k13_2 (ele ows0_2 (k13_2+1))) (k13_2+1) (ele ows0_2 k13_2)).length:=Fm hl41
     refine WQ.block (WQ.then (WC.region (wm Z ?_)))
     obtain⟨c47,hm48⟩:=cs hm43;clear hm43
     refine wq Z (QV.add Z Z Z Z c47) (wa Z (WL.nil ?_))
     exact Bn (upd (upd ows0_2 k13_2 (ele ows0_2 (k13_2+1))) (k13_2+1) (ele ows0_2 k13_2)) (k13_2+1) m17 ⟨Ax hm48 hn20,hl46⟩ (Nat.lt_succ_self _) ⟨Z,Z,Z,trivial⟩ (pk [0,1])
    refine WC.exit (te (te (Ai ?_)))
    exact Cb ows0_2 k13_2 ⟨A6 hm49 hn20,hlows0_2⟩ ⟨Z,Z,Z,trivial⟩ (pk [0,1])
   rintro i10_1 j11_1 m50 hI51
   obtain⟨m52,s53,rfl,hm54,hn55⟩:=Ap hI51;clear hI51;unfold Bs at hm54;simp only at hm54
   refine WC.seq (sr (wm Z (wm Z (wq Z (QV.lss Z Z Z Z) (nt ?_)))))
   refine wc Z hm54 (fun h56 hm57=>?_) (fun h56 hm76=>?_) <;> clear hm54
   ·skip
    refine sk (WQ.then (WC.block (sr (wm Z (wm Z ?_)))))
    obtain⟨c58,c60,hm61⟩:=cs2 hm57;clear hm57
    refine wq Z (QV.add Z Z Z Z c58) (wq Z (QV.intToInt Try.underlying144 Try.underlying3 Z Z) (wq Z (O6 Z Z Z Z (by decide)) (wq Z (QV.intToInt Try.underlying3 Try.underlying144 Z Z) (wa Z (nt (WC.seq (B9 (m:=11) (by kernel_rfl) (by kernel_rfl) (fun w hw=>hw) (zm 0 Z Z (zm 1 Z Z (zm 2 Z Z ?_))))))))))
    obtain⟨p62,hp63⟩:=h_data.ix (sz:=3) Au c60
    refine wz 3 Z Z (Ad Gu Z Z Z Z hp63) (wz 4 Z Z (Ac Mb Z Z Z (fun w hw=>((Cj 1 Z) w hw).ele hp63 c60)) (zm 5 Z Z (zm 6 Z Z ?_)))
    obtain⟨c64,hm65⟩:=cs hm61;clear hm61
    obtain⟨p66,hp67⟩:=h_data.ix (sz:=3) Au c64
    refine wz 7 Z Z (Ad Gu Z Z Z Z hp67) (wz 8 Z Z (Ac Mb Z Z Z (fun w hw=>((Cj 1 Z) w hw).ele hp67 c64)) ?_)
    obtain⟨x68,hx69,hm70⟩:=Ag hm65;clear hm65
    refine wz 9 Z Z (Jr Als Z Z (ec Z (ec Z eN)) (fun w hw=>have h:=Eg w hx69 ;h)) (wz 10 Z Z (QV.lss Z Z Z Z) ?_)
    refine WD.e (by kernel_rfl) ?_
    refine WQ.then ?_
    refine wc Z hm70 (fun h71 hm72=>?_) (fun h71 hm75=>?_) <;> clear hm70
    ·skip
     refine WC.region (wm Z ?_)
     obtain⟨c73,hm74⟩:=cs hm72;clear hm72
     refine wq Z (QV.add Z Z Z Z c73) (wa Z (WL.nil (WQ.block ?_)))
     exact Bn ((IntKind.i64.wrap (shrD (IntKind.u64.wrap (i10_1+j11_1)) 1))+1) j11_1 m52 (Ax hm74 hn55) (Nat.lt_succ_self _) ⟨Z,Z,Z,Z,Z,trivial⟩ (pk [0,1])
    refine WC.region (wm Z (wa Z (WL.nil (WQ.block ?_))))
    exact Bn i10_1 (IntKind.i64.wrap (shrD (IntKind.u64.wrap (i10_1+j11_1)) 1)) m52 (Ax hm75 hn55) (Nat.lt_succ_self _) ⟨Z,Z,Z,Z,Z,trivial⟩ (pk [0,1])
   refine WC.exit (te (te (Ai ?_)))
   exact Cb i10_1 j11_1 (A6 hm76 hn55) ⟨Z,Z,Z,Z,Z,trivial⟩ (pk [0,1])
  refine sk (WQ.then (WC.seq (sr (wm Z (wm Z ?_)))))
  obtain⟨c78,hm79⟩:=cs hm77;clear hm77
  refine wq Z (QV.sub Z Z Z Z c78) (wq Z (QV.eql Z Z Z Z) (nt ?_))
  refine wc Z hm79 (fun h80 hm81=>?_) (fun h80 hm152=>?_) <;> clear hm79
  ·skip
   refine sr (wm Z (wa Z (ns (wm Z (wa Z (nt (WC.seq ?_)))))))
   obtain⟨o82,ho83,hm84⟩:=Ag hm81;clear hm81;obtain⟨n85,ho86⟩:=A0 ho83
   refine Bz (H2:=[kn M w.heap.size K0 K0,Bm v_data 151 3 (List.map Due.cells data)]) (τ:=[u_ 0 _,u_ 2 _,u_ 4 _]) (fun (i14_3:Int) (j15_3:Int)=>[(14,(true,i_ i14_3)),(15,(true,i_ j15_3))]) (fun i14_3 j15_3=>[]) (fun i14_3 j15_3 m=>B3 (Bq data m_) m (i14_3,j15_3)=some o82) (fun i14_3 j15_3=>o82=.go (i14_3,j15_3)) a m_ n85 ho86 ⟨Z,Z,Z,Z,Z,trivial⟩ (pk [0,1]) ?_ ?_
   ·skip
    rintro i14_3 j15_3 rfl
    refine WQ.then (WC.seq (sr (wm Z (wa Z (nt ?_)))))
    obtain⟨o87,ho88,hm89⟩:=Ag hm84;clear hm84;obtain⟨n90,ho91⟩:=A0 ho88
    refine Bz (H2:=[kn M w.heap.size K0 K0]) (τ:=[u_ 0 _,u_ 14 _]) (fun (ows0_4:List Due) (k17_4:Int)=>[(17,(true,i_ k17_4))]) (fun ows0_4 k17_4=>[Bm v_data 151 3 (List.map Due.cells ows0_4)]) (fun ows0_4 k17_4 m=>B3 (Bp i14_3) m (ows0_4,k17_4)=some o87∧SliceLen v_data ows0_4.length) (fun ows0_4 k17_4=>o87=.go (ows0_4,k17_4)∧SliceLen v_data ows0_4.length) data m_ n90 ⟨ho91,h_data⟩ ⟨Z,Z,Z,trivial⟩ (pk [1,0]) ?_ ?_
    ·skip
     rintro ows0_4 k17_4 ⟨rfl,hlows0_4⟩
     refine WQ.then (WC.ret (tr ?_))
     obtain rfl:=(Ae hm89).symm
     refine Agf Z (fun w hw=>?_)
     exact⟨K0,Z,hw.pick [1,0] (by decide),hlows0_4⟩
    rintro ows0_4 k17_4 m92 ⟨hI93,hlows0_4⟩
    obtain⟨m94,s95,rfl,hm96,hn97⟩:=Ap hI93;clear hI93;unfold Bp at hm96;simp only at hm96
    refine WC.seq (sr (wm Z (wm Z (wq Z (QV.gtr Z Z Z Z) (nt ?_)))))
    refine wc Z hm96 (fun h98 hm99=>?_) (fun h98 hm124=>?_) <;> clear hm96
    ·skip
     refine sk (WQ.then (WC.seq (WC.block (Aao (m:=18) (fun i=>[2,3,4].contains i) (by kernel_rfl) (by kernel_rfl) (by kernel_rfl) ?_))))
     refine WT.q 0 0 1 Z (by kernel_rfl) Z Z Z Z (QV.move Z Z) ?_
     refine WT.q 1 1 3 Z (by kernel_rfl) Z Z Z Z (QV.move Z Z) ?_
     refine N6 2 3 7 Z (by kernel_rfl) Z Z Z (QV.move Z Z) ?_
     refine N6 3 7 15 Z (by kernel_rfl) Z Z Z (QV.move Z Z) ?_
     obtain⟨c100,c102,c104,hm105⟩:=cs3 hm99;clear hm99
     refine N6 4 15 31 Z (by kernel_rfl) Z Z Z (QV.sub Z Z Z Z c100) ?_
     refine WT.q 5 31 63 Z (by kernel_rfl) Z Z Z Z (QV.move Z Z) ?_
     refine WT.q 6 63 127 Z (by kernel_rfl) Z Z Z Z (QV.move Z Z) ?_
     refine WT.q 7 127 255 Z (by kernel_rfl) Z Z Z Z (QV.sub Z Z Z Z c102) ?_
     obtain⟨p106,hp107⟩:=hlows0_4.ix (sz:=3) Au c104
     refine WT.q 8 255 511 Z (by kernel_rfl) Z Z Z Z (Ad Gu Z Z Z Z hp107) ?_
     refine WT.q 9 511 1023 Z (by kernel_rfl) Z Z Z Z (Ac Mb Z Z Z (fun w hw=>((Cj 0 Z) w hw).ele hp107 c104)) ?_
     refine WT.q 10 1023 2047 Z (by kernel_rfl) Z Z Z Z (QV.move Z Z) ?_
     refine WT.q 11 2047 4095 Z (by kernel_rfl) Z Z Z Z (QV.move Z Z) ?_
     obtain⟨c108,hm109⟩:=cs hm105;clear hm105
     obtain⟨p110,hp111⟩:=hlows0_4.ix (sz:=3) Au c108
     refine WT.q 12 4095 8191 Z (by kernel_rfl) Z Z Z Z (Ad Gu Z Z Z Z hp111) ?_
     refine WT.q 13 8191 16383 Z (by kernel_rfl) Z Z Z Z (Ac Mb Z Z Z (fun w hw=>((Cj 0 Z) w hw).ele hp111 c108)) ?_
     obtain⟨c112,hm113⟩:=cs hm109;clear hm109
     obtain⟨p114,hp115⟩:=hlows0_4.ix (sz:=3) Au c112
     refine WT.q 14 16383 32767 Z (by kernel_rfl) Z Z Z Z (Ad Gu Z Z Z Z hp115) ?_
     have hl116:SliceLen v_data (upd ows0_4 k17_4 (ele ows0_4 (k17_4 - 1))).length:=Fm hlows0_4
     refine WT.o (H':=[Bm v_data 151 3 (List.map Due.cells (upd ows0_4 k17_4 (ele ows0_4 (k17_4 - 1)))),kn M w.heap.size K0 K0]) 15 32767 65535 Z (by kernel_rfl) Z (by kernel_rfl) ?_ ?_
     ·skip
      refine(Ig (enc:=Due.cells) (off:=0) (vs:=[i_ ((ele ows0_4 (k17_4 - 1)).due),i_ ((ele ows0_4 (k17_4 - 1)).reg),i_ ((ele ows0_4 (k17_4 - 1)).v)]) 0 (ele ows0_4 (k17_4 - 1)) rfl rfl rfl rfl rfl hp115 c112 (by first | rfl | exact I4 _) (show Value.cells _=List.toArray _ from rfl) U7 (nl rfl) (oc rfl (oc rfl (oc rfl Aw))) rfl ?_)
      exact WT.b (fun w hw=>hw)
     obtain⟨c117,hm118⟩:=cs hm113;clear hm113
     obtain⟨p119,hp120⟩:=hl116.ix (sz:=3) Au c117
     refine WT.q 16 65535 131071 Z (by kernel_rfl) Z Z Z Z (Ad Gu Z Z Z Z hp120) ?_
     refine WT.l 17 131071 262143 Z (by kernel_rfl) Z ?_
     refine(Ig (enc:=Due.cells) (off:=0) (vs:=[i_ ((ele ows0_4 k17_4).due),i_ ((ele ows0_4 k17_4).reg),i_ ((ele ows0_4 k17_4).v)]) 0 (ele ows0_4 k17_4) rfl rfl rfl rfl rfl hp120 c117 (by first | rfl | exact I4 _) (show Value.cells _=List.toArray _ from rfl) U7 (nl rfl) (oc rfl (oc rfl (oc rfl Aw))) rfl ?_)
     have hl121:SliceLen v_data (upd (upd ows0_4 k17_4 (ele ows0_4 (k17_4 - 1))) (k17_4 - 1) (ele ows0_4 k17_4)).length:=Fm hl116
     refine WQ.block (WQ.then (WC.region (wm Z ?_)))
     obtain⟨c122,hm123⟩:=cs hm118;clear hm118
     refine wq Z (QV.sub Z Z Z Z c122) (wa Z (WL.nil ?_))
     exact Bn (upd (upd ows0_4 k17_4 (ele ows0_4 (k17_4 - 1))) (k17_4 - 1) (ele ows0_4 k17_4)) (k17_4 - 1) m94 ⟨Ax hm123 hn97,hl121⟩ (Nat.lt_succ_self _) ⟨Z,Z,Z,trivial⟩ (pk [0,1])
    refine WC.exit (te (te (Ai ?_)))
    exact Cb ows0_4 k17_4 ⟨A6 hm124 hn97,hlows0_4⟩ ⟨Z,Z,Z,trivial⟩ (pk [0,1])
   rintro i14_3 j15_3 m125 hI126
   obtain⟨m127,s128,rfl,hm129,hn130⟩:=Ap hI126;clear hI126;unfold Bq at hm129;simp only at hm129
   refine WC.seq (sr (wm Z (wm Z (wq Z (QV.lss Z Z Z Z) (nt ?_)))))
   refine wc Z hm129 (fun h131 hm132=>?_) (fun h131 hm151=>?_) <;> clear hm129
   ·skip
    refine sk (WQ.then (WC.block (sr (wm Z (wm Z ?_)))))
    obtain⟨c133,c135,hm136⟩:=cs2 hm132;clear hm132
    refine wq Z (QV.add Z Z Z Z c133) (wq Z (QV.intToInt Try.underlying144 Try.underlying3 Z Z) (wq Z (O6 Z Z Z Z (by decide)) (wq Z (QV.intToInt Try.underlying3 Try.underlying144 Z Z) (wa Z (nt (WC.seq (B9 (m:=12) (by kernel_rfl) (by kernel_rfl) (fun w hw=>hw) (zm 0 Z Z (zm 1 Z Z (zm 2 Z Z ?_))))))))))
    obtain⟨p137,hp138⟩:=h_data.ix (sz:=3) Au c135
    refine wz 3 Z Z (Ad Gu Z Z Z Z hp138) (wz 4 Z Z (Ac Mb Z Z Z (fun w hw=>((Cj 1 Z) w hw).ele hp138 c135)) (zm 5 Z Z (zm 6 Z Z ?_)))
    obtain⟨c139,hm140⟩:=cs hm136;clear hm136
    obtain⟨p141,hp142⟩:=h_data.ix (sz:=3) Au c139
    refine wz 7 Z Z (Ad Gu Z Z Z Z hp142) (wz 8 Z Z (Ac Mb Z Z Z (fun w hw=>((Cj 1 Z) w hw).ele hp142 c139)) ?_)
    obtain⟨x143,hx144,hm145⟩:=Ag hm140;clear hm140
    refine wz 9 Z Z (Jr Als Z Z (ec Z (ec Z eN)) (fun w hw=>have h:=Eg w hx144 ;h)) (wz 10 Z Z (QV.lss Z Z Z Z) (wz 11 Z Z (QV.not Z Z) ?_))
    refine WD.e (by kernel_rfl) ?_
    refine WQ.then ?_
    refine wc Z hm145 (fun h146 hm147=>?_) (fun h146 hm150=>?_) <;> clear hm145
    ·skip
     refine WC.region (wm Z ?_)
     obtain⟨c148,hm149⟩:=cs hm147;clear hm147
     refine wq Z (QV.add Z Z Z Z c148) (wa Z (WL.nil (WQ.block ?_)))
     exact Bn ((IntKind.i64.wrap (shrD (IntKind.u64.wrap (i14_3+j15_3)) 1))+1) j15_3 m127 (Ax hm149 hn130) (Nat.lt_succ_self _) ⟨Z,Z,Z,Z,Z,trivial⟩ (pk [0,1])
    refine WC.region (wm Z (wa Z (WL.nil (WQ.block ?_))))
    exact Bn i14_3 (IntKind.i64.wrap (shrD (IntKind.u64.wrap (i14_3+j15_3)) 1)) m127 (Ax hm150 hn130) (Nat.lt_succ_self _) ⟨Z,Z,Z,Z,Z,trivial⟩ (pk [0,1])
   refine WC.exit (te (te (Ai ?_)))
   exact Cb i14_3 j15_3 (A6 hm151 hn130) ⟨Z,Z,Z,Z,Z,trivial⟩ (pk [0,1])
  refine sk (WQ.then (sr (wm Z (wm Z ?_))))
  obtain⟨c153,c155,hm156⟩:=cs2 hm152;clear hm152
  refine wq Z (QV.add Z Z Z Z c153) (wq Z (QV.intToInt Try.underlying144 Try.underlying3 Z Z) (wq Z (O6 Z Z Z Z (by decide)) (wq Z (QV.intToInt Try.underlying3 Try.underlying144 Z Z) (wa Z (ns (wm Z (wm Z (wq Z (QV.add Z Z Z Z c155) (wa Z ?_)))))))))
  refine ns (wa Z (wa Z (nt (WC.seq (sr (wm Z (wm Z (wq Z (QV.gtr Z Z Z Z) (nt ?_)))))))))
  obtain⟨o157,hj158,hm159⟩:=Ag hm156;clear hm156
  refine U1 (H2:=[kn M w.heap.size K0 K0,Bm v_data 151 3 (List.map Due.cells data)]) (τ:=[u_ 0 _,u_ 1 _,u_ 2 _,u_ 3 _,u_ 4 _,u_ 18 _,u_ 19 _]) (fun (start20_5:Int) (r21_5:Int)=>[(20,(true,i_ start20_5)),(21,(true,i_ r21_5))]) (fun start20_5 r21_5=>[]) (fun start20_5 r21_5=>o157=.go (start20_5,r21_5)) ⟨Z,Z,Z,Z,Z,Z,Z,trivial⟩ (pk [0,1]) ?_ ?_
  ·skip
   rintro start20_5 r21_5 rfl
   refine sr (wm Z ?_)
   obtain⟨c160,hm161⟩:=cs hm159;clear hm159
   refine wq Z (QV.sub Z Z Z Z c160) (wa Z (nt (WC.seq ?_)))
   obtain⟨o162,ho163,hm164⟩:=Ag hm161;clear hm161;obtain⟨n165,ho166⟩:=A0 ho163
   refine Bz (H2:=[kn M w.heap.size K0 K0,Bm v_data 151 3 (List.map Due.cells data)]) (τ:=[u_ 0 _,u_ 1 _,u_ 2 _,u_ 3 _,u_ 4 _,u_ 18 _,u_ 19 _,u_ 22 _]) (fun (start20_6:Int) (r21_6:Int)=>[(20,(true,i_ start20_6)),(21,(true,i_ r21_6))]) (fun start20_6 r21_6=>[]) (fun start20_6 r21_6 m=>B3 (Bo data a m_ b) m (start20_6,r21_6)=some o162) (fun start20_6 r21_6=>o162=.go (start20_6,r21_6)) start20_5 r21_5 n165 ho166 ⟨Z,Z,Z,Z,Z,Z,Z,Z,Z,Z,trivial⟩ (pk [0,1]) ?_ ?_
   ·skip
    rintro start20_6 r21_6 rfl
    refine WQ.then (sr (wm Z (wm Z ?_)))
    obtain⟨c167,hm168⟩:=cs hm164;clear hm164
    refine wq Z (QV.sub Z Z Z Z c167) (wa Z (nt (WC.seq (sr (wm Z (wm Z (wq Z (QV.lss Z Z Z Z) (wm Z (gp Z (fun hG=>QV.move Z Z) (gp Z (fun hG=>QV.move Z Z) (gp Z (fun hG=>QV.lss Z hG Z hG) ?_)))))))))))
    refine wq Z (Az Z Z Z (fun h=>h)) (nt ?_)
    refine wc Z hm168 (fun h169 hm170=>?_) (fun h169 hm196=>?_) <;> clear hm168
    ·skip
     refine WC.region (wm Z (wm Z (wm Z (wm Z (wm Z (Aa Z ?_))))))
     obtain⟨x171,hx172,hm173⟩:=Ag hm170;clear hm170
     refine(A4 (X:=World) (R:=[Bm v_data 151 3 (List.map Due.cells data)]) (fun X=>.tuple #[]) (fun X=>[Bm v_data 151 3 (List.map Due.cells x171)]) (fun X=>X) (fun X=>SliceLen v_data (x171).length) hk (fun _ h=>by cases h;decide) en139 (ec Z (ec Z (ec Z (ec Z (ec Z eN))))) (fun M w h1 h2=>have h:=Jh hx172 h_data M w h1 h2;h) (fun X174 hF174 hle174=>?_))
     refine nt (WC.seq (sr (wm Z (wm Z (wq Z (QV.lss Z Z Z Z) (wm Z (gp Z (fun hG=>QV.move Z Z) (gp Z (fun hG=>QV.move Z Z) (gp Z (fun hG=>QV.lss Z hG Z hG) (wq Z (Az Z Z Z (fun h=>h)) (nt ?_)))))))))))
     refine wc Z hm173 (fun h175 hm176=>?_) (fun h175 hm188=>?_) <;> clear hm173
     ·skip
      refine WC.region (wm Z (wm Z (wm Z (wm Z (wm Z (Aa Z ?_))))))
      obtain⟨x177,hx178,hm179⟩:=Ag hm176;clear hm176
      refine(A4 (X:=World) (R:=[Bm v_data 151 3 (List.map Due.cells x171)]) (fun X=>.tuple #[]) (fun X=>[Bm v_data 151 3 (List.map Due.cells x177)]) (fun X=>X) (fun X=>SliceLen v_data (x177).length) hk (fun _ h=>by cases h;decide) Va (ec Z (ec Z (ec Z (ec Z (ec Z eN))))) (fun M w h1 h2=>have h:=IH hx178 hF174 M w h1 h2;h) (fun X180 hF180 hle180=>?_))
      refine ns (wm Z (wm Z (wq Z (QV.lss Z Z Z Z) (wm Z (gp Z (fun hG=>QV.move Z Z) (gp Z (fun hG=>QV.move Z Z) (gp Z (fun hG=>QV.lss Z hG Z hG) (wq Z (Az Z Z Z (fun h=>h)) (nt ?_)))))))))
      refine wc Z hm179 (fun h181 hm182=>?_) (fun h181 hm187=>?_) <;> clear hm179
      ·skip
       refine WC.region (wm Z (wm Z (wm Z (wm Z (wm Z (Aa Z ?_))))))
       obtain⟨x183,hx184,hm185⟩:=Ag hm182;clear hm182
       refine(A4 (X:=World) (R:=[Bm v_data 151 3 (List.map Due.cells x177)]) (fun X=>.tuple #[]) (fun X=>[Bm v_data 151 3 (List.map Due.cells x183)]) (fun X=>X) (fun X=>SliceLen v_data (x183).length) hk (fun _ h=>by cases h;decide) Va (ec Z (ec Z (ec Z (ec Z (ec Z eN))))) (fun M w h1 h2=>have h:=IH hx184 hF180 M w h1 h2;h) (fun X186 hF186 hle186=>?_))
       refine WL.nil ?_
       obtain rfl:=(Ae hm185).symm
       refine F6 Z (fun w hw=>?_)
       exact⟨X186,Z,hw.pick [0,1] (by decide),hF186⟩
      refine sk ?_
      obtain rfl:=(Ae hm187).symm
      refine F6 Z (fun w hw=>?_)
      exact⟨X180,Z,hw.pick [0,1] (by decide),hF180⟩
     refine sk (WQ.then (sr (wm Z (wm Z (wq Z (QV.lss Z Z Z Z) (wm Z (gp Z (fun hG=>QV.move Z Z) (gp Z (fun hG=>QV.move Z Z) (gp Z (fun hG=>QV.lss Z hG Z hG) (wq Z (Az Z Z Z (fun h=>h)) (nt ?_)))))))))))
     refine wc Z hm188 (fun h189 hm190=>?_) (fun h189 hm195=>?_) <;> clear hm188
     ·skip
      refine WC.region (wm Z (wm Z (wm Z (wm Z (wm Z (Aa Z ?_))))))
      obtain⟨x191,hx192,hm193⟩:=Ag hm190;clear hm190
      refine(A4 (X:=World) (R:=[Bm v_data 151 3 (List.map Due.cells x171)]) (fun X=>.tuple #[]) (fun X=>[Bm v_data 151 3 (List.map Due.cells x191)]) (fun X=>X) (fun X=>SliceLen v_data (x191).length) hk (fun _ h=>by cases h;decide) Va (ec Z (ec Z (ec Z (ec Z (ec Z eN))))) (fun M w h1 h2=>have h:=IH hx192 hF174 M w h1 h2;h) (fun X194 hF194 hle194=>?_))
      refine WL.nil ?_
      obtain rfl:=(Ae hm193).symm
      refine F6 Z (fun w hw=>?_)
      exact⟨X194,Z,hw.pick [0,1] (by decide),hF194⟩
     refine sk ?_
     obtain rfl:=(Ae hm195).symm
     refine F6 Z (fun w hw=>?_)
     exact⟨X174,Z,hw.pick [0,1] (by decide),hF174⟩
    refine sk (WQ.then (WC.seq (sr (wm Z (wm Z (wq Z (QV.lss Z Z Z Z) (wm Z (gp Z (fun hG=>QV.move Z Z) (gp Z (fun hG=>QV.move Z Z) (gp Z (fun hG=>QV.lss Z hG Z hG) (wq Z (Az Z Z Z (fun h=>h)) (nt ?_))))))))))))
    refine wc Z hm196 (fun h197 hm198=>?_) (fun h197 hm210=>?_) <;> clear hm196
    ·skip
     refine WC.region (wm Z (wm Z (wm Z (wm Z (wm Z (Aa Z ?_))))))
     obtain⟨x199,hx200,hm201⟩:=Ag hm198;clear hm198
     refine(A4 (X:=World) (R:=[Bm v_data 151 3 (List.map Due.cells data)]) (fun X=>.tuple #[]) (fun X=>[Bm v_data 151 3 (List.map Due.cells x199)]) (fun X=>X) (fun X=>SliceLen v_data (x199).length) hk (fun _ h=>by cases h;decide) Va (ec Z (ec Z (ec Z (ec Z (ec Z eN))))) (fun M w h1 h2=>have h:=IH hx200 h_data M w h1 h2;h) (fun X202 hF202 hle202=>?_))
     refine ns (wm Z (wm Z (wq Z (QV.lss Z Z Z Z) (wm Z (gp Z (fun hG=>QV.move Z Z) (gp Z (fun hG=>QV.move Z Z) (gp Z (fun hG=>QV.lss Z hG Z hG) (wq Z (Az Z Z Z (fun h=>h)) (nt ?_)))))))))
     refine wc Z hm201 (fun h203 hm204=>?_) (fun h203 hm209=>?_) <;> clear hm201
     ·skip
      refine WC.region (wm Z (wm Z (wm Z (wm Z (wm Z (Aa Z ?_))))))
      obtain⟨x205,hx206,hm207⟩:=Ag hm204;clear hm204
      refine(A4 (X:=World) (R:=[Bm v_data 151 3 (List.map Due.cells x199)]) (fun X=>.tuple #[]) (fun X=>[Bm v_data 151 3 (List.map Due.cells x205)]) (fun X=>X) (fun X=>SliceLen v_data (x205).length) hk (fun _ h=>by cases h;decide) Va (ec Z (ec Z (ec Z (ec Z (ec Z eN))))) (fun M w h1 h2=>have h:=IH hx206 hF202 M w h1 h2;h) (fun X208 hF208 hle208=>?_))
      refine WL.nil ?_
      obtain rfl:=(Ae hm207).symm
      refine F6 Z (fun w hw=>?_)
      exact⟨X208,Z,hw.pick [0,1] (by decide),hF208⟩
     refine sk ?_
     obtain rfl:=(Ae hm209).symm
     refine F6 Z (fun w hw=>?_)
     exact⟨X202,Z,hw.pick [0,1] (by decide),hF202⟩
    refine sk (WQ.then (sr (wm Z (wm Z (wq Z (QV.lss Z Z Z Z) (wm Z (gp Z (fun hG=>QV.move Z Z) (gp Z (fun hG=>QV.move Z Z) (gp Z (fun hG=>QV.lss Z hG Z hG) (wq Z (Az Z Z Z (fun h=>h)) (nt ?_)))))))))))
    refine wc Z hm210 (fun h211 hm212=>?_) (fun h211 hm217=>?_) <;> clear hm210
    ·skip
     refine WC.region (wm Z (wm Z (wm Z (wm Z (wm Z (Aa Z ?_))))))
     obtain⟨x213,hx214,hm215⟩:=Ag hm212;clear hm212
     refine(A4 (X:=World) (R:=[Bm v_data 151 3 (List.map Due.cells data)]) (fun X=>.tuple #[]) (fun X=>[Bm v_data 151 3 (List.map Due.cells x213)]) (fun X=>X) (fun X=>SliceLen v_data (x213).length) hk (fun _ h=>by cases h;decide) Va (ec Z (ec Z (ec Z (ec Z (ec Z eN))))) (fun M w h1 h2=>have h:=IH hx214 h_data M w h1 h2;h) (fun X216 hF216 hle216=>?_))
     refine WL.nil ?_
     obtain rfl:=(Ae hm215).symm
     refine F6 Z (fun w hw=>?_)
     exact⟨X216,Z,hw.pick [0,1] (by decide),hF216⟩
    refine sk ?_
    obtain rfl:=(Ae hm217).symm
    refine F6 Z (fun w hw=>?_)
    exact⟨K0,Z,hw.pick [0,1] (by decide),h_data⟩
   rintro start20_6 r21_6 m218 hI219
   obtain⟨m220,s221,rfl,hm222,hn223⟩:=Ap hI219;clear hI219;unfold Bo at hm222;simp only at hm222
   refine WC.seq (sr (wm Z (wm Z (wq Z (QV.lss Z Z Z Z) (nt ?_)))))
   refine wc Z hm222 (fun h224 hm225=>?_) (fun h224 hm246=>?_) <;> clear hm222
   ·skip
    refine sk (WQ.then (WC.block (sr (wm Z (wm Z ?_)))))
    obtain⟨c226,c228,c230,hm231⟩:=cs3 hm225;clear hm225
    refine wq Z (QV.add Z Z Z Z c226) (wq Z (QV.intToInt Try.underlying144 Try.underlying3 Z Z) (wq Z (O6 Z Z Z Z (by decide)) (wq Z (QV.intToInt Try.underlying3 Try.underlying144 Z Z) (wa Z (nt (WC.seq (B9 (m:=14) (by kernel_rfl) (by kernel_rfl) (fun w hw=>hw) (zm 0 Z Z (zm 1 Z Z (zm 2 Z Z ?_))))))))))
    refine zm 3 Z Z (wz 4 Z Z (QV.sub Z Z Z Z c228) ?_)
    obtain⟨p232,hp233⟩:=h_data.ix (sz:=3) Au c230
    refine wz 5 Z Z (Ad Gu Z Z Z Z hp233) (wz 6 Z Z (Ac Mb Z Z Z (fun w hw=>((Cj 1 Z) w hw).ele hp233 c230)) (zm 7 Z Z (zm 8 Z Z ?_)))
    obtain⟨c234,hm235⟩:=cs hm231;clear hm231
    obtain⟨p236,hp237⟩:=h_data.ix (sz:=3) Au c234
    refine wz 9 Z Z (Ad Gu Z Z Z Z hp237) (wz 10 Z Z (Ac Mb Z Z Z (fun w hw=>((Cj 1 Z) w hw).ele hp237 c234)) ?_)
    obtain⟨x238,hx239,hm240⟩:=Ag hm235;clear hm235
    refine wz 11 Z Z (Jr Als Z Z (ec Z (ec Z eN)) (fun w hw=>have h:=Eg w hx239 ;h)) (wz 12 Z Z (QV.lss Z Z Z Z) (wz 13 Z Z (QV.not Z Z) ?_))
    refine WD.e (by kernel_rfl) ?_
    refine WQ.then ?_
    refine wc Z hm240 (fun h241 hm242=>?_) (fun h241 hm245=>?_) <;> clear hm240
    ·skip
     refine WC.region (wm Z ?_)
     obtain⟨c243,hm244⟩:=cs hm242;clear hm242
     refine wq Z (QV.add Z Z Z Z c243) (wa Z (WL.nil (WQ.block ?_)))
     exact Bn ((IntKind.i64.wrap (shrD (IntKind.u64.wrap (start20_6+r21_6)) 1))+1) r21_6 m220 (Ax hm244 hn223) (Nat.lt_succ_self _) ⟨Z,Z,Z,Z,Z,Z,Z,Z,Z,Z,trivial⟩ (pk [0,1])
    refine WC.region (wm Z (wa Z (WL.nil (WQ.block ?_))))
    exact Bn start20_6 (IntKind.i64.wrap (shrD (IntKind.u64.wrap (start20_6+r21_6)) 1)) m220 (Ax hm245 hn223) (Nat.lt_succ_self _) ⟨Z,Z,Z,Z,Z,Z,Z,Z,Z,Z,trivial⟩ (pk [0,1])
   refine WC.exit (te (te (Ai ?_)))
   exact Cb start20_6 r21_6 (A6 hm246 hn223) ⟨Z,Z,Z,Z,Z,Z,Z,Z,Z,Z,trivial⟩ (pk [0,1])
  refine WC.cond Z (fun h247=>?_) (fun h247=>?_)
  ·skip
   have hm248:=Ab1 h247 hj158;clear hj158
   refine sr (wm Z (wm Z ?_))
   obtain⟨c249,hm250⟩:=cs hm248;clear hm248
   refine wq Z (QV.sub Z Z Z Z c249) (wa Z (nr (wm Z (wa Z (WL.nil ?_)))))
   exact Cb (((IntKind.i64.wrap (shrD (IntKind.u64.wrap (a+b)) 1))+m_) - b) (IntKind.i64.wrap (shrD (IntKind.u64.wrap (a+b)) 1)) (Ae hm250) ⟨Z,Z,Z,Z,Z,Z,Z,Z,Z,trivial⟩ (pk [0,1])
  have hm251:=Ab2 h247 hj158;clear hj158
  refine sr (wm Z (wa Z (nr (wm Z (wa Z (WL.nil ?_))))))
  exact Cb a m_ (Ae hm251) ⟨Z,Z,Z,Z,Z,Z,Z,Z,Z,trivial⟩ (pk [0,1])
theorem Jg {v_data:Value}{data:List Due}{n_:Int}{r:List Due}{K0:World} (hm:Cm data n_=some r) (h_data:SliceLen v_data data.length) (M:Nat→Prop) (w:World) (hk:Base M K0 w) (hw0:Own M w [Bm v_data 151 3 (List.map Due.cells data)] w):Calls Try.prog 119 #[v_data,.int .i64 n_,.func (.func 94) #[] #[]] w (fun e w'=>∃ X:World,e=.returned (.tuple #[])∧Own M w (kn M w.heap.size K0 X::[Bm v_data 151 3 (List.map Due.cells r)]) w'∧SliceLen v_data (r).length):=by
 unfold Cm at hm
 refine Ak (n:=63) (args:=[v_data,i_ n_,.func (.func 94) #[] #[]]) Try.func119 Z Z (nl Z) ?_ (An hk hw0)
 refine sr (wa Z (ns (wm Z (wa Z (wa Z (nt (WC.seq ?_)))))))
 obtain⟨o1,ho2,hm3⟩:=Ag hm;clear hm;obtain⟨n4,ho5⟩:=A0 ho2
 refine I5 (H2:=[]) (τ:=[u_ 0 _,u_ 1 _,u_ 2 _,u_ 6 _]) (fun (ows0_1:List Due) (a7_1:Int) (b8_1:Int) (k_1:World)=>[(7,(true,i_ a7_1)),(8,(true,i_ b8_1))]) (fun ows0_1 a7_1 b8_1 k_1=>[kn M w.heap.size K0 k_1,Bm v_data 151 3 (List.map Due.cells ows0_1)]) (fun ows0_1 a7_1 b8_1 k_1 m=>B3 (Bc n_) m (ows0_1,a7_1,b8_1)=some o1∧SliceLen v_data ows0_1.length∧Le K0 k_1) (fun ows0_1 a7_1 b8_1 k_1=>o1=.go (ows0_1,a7_1,b8_1)∧SliceLen v_data ows0_1.length∧Le K0 k_1) data 0 20 K0 n4 ⟨ho5,h_data,(Le.refl _)⟩ ⟨Z,Z,Z,Z,Z,Z,trivial⟩ (pk [0,1]) ?_ ?_
 ·skip
  rintro ows0_1 a7_1 b8_1 k_1 ⟨rfl,hlows0_1,hle_1⟩
  refine WQ.then (sr (wm Z (wm Z (wm Z (wm Z (Aa Z ?_))))))
  obtain⟨x6,hx7,hm8⟩:=Ag hm3;clear hm3
  refine(A4 (X:=World) (R:=[Bm v_data 151 3 (List.map Due.cells ows0_1)]) (fun X=>.tuple #[]) (fun X=>[Bm v_data 151 3 (List.map Due.cells x6)]) (fun X=>X) (fun X=>SliceLen v_data (x6).length) hk (fun _ h=>by cases h;decide) Aoa (ec Z (ec Z (ec Z (ec Z eN)))) (fun M w h1 h2=>have h:=Ds hx7 hlows0_1 M w h1 h2;h) (fun X9 hF9 hle9=>?_))
  refine nt ?_
  obtain⟨o10,ho11,hm12⟩:=Ag hm8;clear hm8;obtain⟨n13,ho14⟩:=A0 ho11
  refine D2 (H2:=[]) (τ:=[u_ 0 _,u_ 1 _,u_ 2 _]) (fun (ows0_4:List Due) (blockSize6_4:Int) (k_4:World)=>[(6,(true,i_ blockSize6_4))]) (fun ows0_4 blockSize6_4 k_4=>[kn M w.heap.size K0 k_4,Bm v_data 151 3 (List.map Due.cells ows0_4)]) (fun ows0_4 blockSize6_4 k_4 m=>B3 (Bk n_) m (ows0_4,blockSize6_4)=some o10∧SliceLen v_data ows0_4.length∧Le X9 k_4) (fun ows0_4 blockSize6_4 k_4=>o10=.go (ows0_4,blockSize6_4)∧SliceLen v_data ows0_4.length∧Le X9 k_4) x6 20 X9 n13 ⟨ho14,hF9,(Le.refl _)⟩ ⟨Z,Z,Z,Z,trivial⟩ (pk [0,1]) ?_ ?_
  ·skip
   rintro ows0_4 blockSize6_4 k_4 ⟨rfl,hlows0_4,hle_4⟩
   obtain rfl:=(Ae hm12).symm
   refine F6 Z (fun w hw=>?_)
   exact⟨k_4,Z,hw.pick [0,1] (by decide),hlows0_4⟩
  rintro ows0_4 blockSize6_4 k_4 m15 ⟨hI16,hlows0_4,hle_4⟩
  obtain⟨m17,s18,rfl,hm19,hn20⟩:=Ap hI16;clear hI16;unfold Bk at hm19;simp only at hm19
  refine WC.seq (sr (wm Z (wm Z (wq Z (QV.lss Z Z Z Z) (nt ?_)))))
  refine wc Z hm19 (fun h21 hm22=>?_) (fun h21 hm62=>?_) <;> clear hm19
  ·skip
   refine sk (WQ.then (WC.block (sr (wm Z ?_))))
   obtain⟨c23,hm24⟩:=cs hm22;clear hm22
   refine wq Z (QV.mul Z Z Z Z c23) (wa Z (wa Z (nt (WC.seq ?_))))
   obtain⟨o25,ho26,hm27⟩:=Ag hm24;clear hm24;obtain⟨n28,ho29⟩:=A0 ho26
   refine I5 (H2:=[]) (τ:=[u_ 0 _,u_ 1 _,u_ 2 _,u_ 6 _]) (fun (ows0_5:List Due) (a7_5:Int) (b8_5:Int) (k_5:World)=>[(7,(true,i_ a7_5)),(8,(true,i_ b8_5))]) (fun ows0_5 a7_5 b8_5 k_5=>[kn M w.heap.size K0 k_5,Bm v_data 151 3 (List.map Due.cells ows0_5)]) (fun ows0_5 a7_5 b8_5 k_5 m=>B3 (Bb n_ blockSize6_4) m (ows0_5,a7_5,b8_5)=some o25∧SliceLen v_data ows0_5.length∧Le k_4 k_5) (fun ows0_5 a7_5 b8_5 k_5=>o25=.go (ows0_5,a7_5,b8_5)∧SliceLen v_data ows0_5.length∧Le k_4 k_5) ows0_4 0 (2 * blockSize6_4) k_4 n28 ⟨ho29,hlows0_4,(Le.refl _)⟩ ⟨Z,Z,Z,Z,Z,Z,trivial⟩ (pk [0,1]) ?_ ?_
   ·skip
    rintro ows0_5 a7_5 b8_5 k_5 ⟨rfl,hlows0_5,hle_5⟩
    refine WQ.then (WC.seq (sr (wm Z (wm Z ?_))))
    obtain⟨c30,hm31⟩:=cs hm27;clear hm27
    refine wq Z (QV.add Z Z Z Z c30) (wa Z (ns (wm Z (wm Z (wq Z (QV.lss Z Z Z Z) (nt ?_))))))
    refine wc Z hm31 (fun h32 hm33=>?_) (fun h32 hm40=>?_) <;> clear hm31
    ·skip
     refine WC.region (wm Z (wm Z (wm Z (wm Z (wm Z (Aa Z ?_))))))
     obtain⟨x34,hx35,hm36⟩:=Ag hm33;clear hm33
     refine(A4 (X:=World) (R:=[Bm v_data 151 3 (List.map Due.cells ows0_5)]) (fun X=>.tuple #[]) (fun X=>[Bm v_data 151 3 (List.map Due.cells x34)]) (fun X=>X) (fun X=>SliceLen v_data (x34).length) hk (fun _ h=>by cases h;decide) Va (ec Z (ec Z (ec Z (ec Z (ec Z eN))))) (fun M w h1 h2=>have h:=D9 64 hx35 hlows0_5 M w h1 h2;h) (fun X37 hF37 hle37=>?_))
     refine nr (wm Z ?_)
     obtain⟨c38,hm39⟩:=cs hm36;clear hm36
     refine wq Z (QV.mul Z Z Z Z c38) (wa Z (WL.nil (WQ.block ?_)))
     exact C4 x34 (blockSize6_4 * 2) X37 m17 ⟨Ax hm39 hn20,hF37,((hle_4.trans hle_5).trans hle37)⟩ (Nat.lt_succ_self _) ⟨Z,Z,Z,Z,trivial⟩ (pk [0,1])
    refine sk (WQ.then (WC.region (wm Z ?_)))
    obtain⟨c41,hm42⟩:=cs hm40;clear hm40
    refine wq Z (QV.mul Z Z Z Z c41) (wa Z (WL.nil (WQ.block ?_)))
    exact C4 ows0_5 (blockSize6_4 * 2) k_5 m17 ⟨Ax hm42 hn20,hlows0_5,(hle_4.trans hle_5)⟩ (Nat.lt_succ_self _) ⟨Z,Z,Z,Z,trivial⟩ (pk [0,1])
   rintro ows0_5 a7_5 b8_5 k_5 m43 ⟨hI44,hlows0_5,hle_5⟩
   obtain⟨m45,s46,rfl,hm47,hn48⟩:=Ap hI44;clear hI44;unfold Bb at hm47;simp only at hm47
   refine WC.seq (sr (wm Z (wm Z (wq Z (QV.leq Z Z Z Z) (nt ?_)))))
   refine wc Z hm47 (fun h49 hm50=>?_) (fun h49 hm61=>?_) <;> clear hm47
   ·skip
    refine sk (WQ.then (WC.block (sr (wm Z (wm Z (wm Z (wm Z ?_)))))))
    obtain⟨c51,hm52⟩:=cs hm50;clear hm50
    refine wq Z (QV.add Z Z Z Z c51) (wm Z (wm Z (Aa Z ?_)))
    obtain⟨x53,hx54,hm55⟩:=Ag hm52;clear hm52
    refine(A4 (X:=World) (R:=[Bm v_data 151 3 (List.map Due.cells ows0_5)]) (fun X=>.tuple #[]) (fun X=>[Bm v_data 151 3 (List.map Due.cells x53)]) (fun X=>X) (fun X=>SliceLen v_data (x53).length) hk (fun _ h=>by cases h;decide) Va (ec Z (ec Z (ec Z (ec Z (ec Z eN))))) (fun M w h1 h2=>have h:=D9 64 hx54 hlows0_5 M w h1 h2;h) (fun X56 hF56 hle56=>?_))
    refine ns (wm Z (wa Z (nr (wm Z (wm Z ?_)))))
    obtain⟨c57,c59,hm60⟩:=cs2 hm55;clear hm55
    refine wq Z (QV.mul Z Z Z Z c57) (wq Z (QV.add Z Z Z Z c59) (wa Z (WL.nil (WQ.block ?_))))
    exact Ev x53 b8_5 (b8_5+(2 * blockSize6_4)) X56 m45 ⟨Ax hm60 hn48,hF56,(hle_5.trans hle56)⟩ (Nat.lt_succ_self _) ⟨Z,Z,Z,Z,Z,Z,trivial⟩ (pk [0,1])
   refine WC.exit (te (te (Ai ?_)))
   exact Ko ows0_5 a7_5 b8_5 k_5 ⟨A6 hm61 hn48,hlows0_5,hle_5⟩ ⟨Z,Z,Z,Z,Z,Z,trivial⟩ (pk [0,1])
  refine WC.exit (te (te (Ai ?_)))
  exact Gw ows0_4 blockSize6_4 k_4 ⟨A6 hm62 hn20,hlows0_4,hle_4⟩ ⟨Z,Z,Z,Z,trivial⟩ (pk [0,1])
 rintro ows0_1 a7_1 b8_1 k_1 m63 ⟨hI64,hlows0_1,hle_1⟩
 obtain⟨m65,s66,rfl,hm67,hn68⟩:=Ap hI64;clear hI64;unfold Bc at hm67;simp only at hm67
 refine WC.seq (sr (wm Z (wm Z (wq Z (QV.leq Z Z Z Z) (nt ?_)))))
 refine wc Z hm67 (fun h69 hm70=>?_) (fun h69 hm77=>?_) <;> clear hm67
 ·skip
  refine sk (WQ.then (WC.block (sr (wm Z (wm Z (wm Z (wm Z (Aa Z ?_))))))))
  obtain⟨x71,hx72,hm73⟩:=Ag hm70;clear hm70
  refine(A4 (X:=World) (R:=[Bm v_data 151 3 (List.map Due.cells ows0_1)]) (fun X=>.tuple #[]) (fun X=>[Bm v_data 151 3 (List.map Due.cells x71)]) (fun X=>X) (fun X=>SliceLen v_data (x71).length) hk (fun _ h=>by cases h;decide) Aoa (ec Z (ec Z (ec Z (ec Z eN)))) (fun M w h1 h2=>have h:=Ds hx72 hlows0_1 M w h1 h2;h) (fun X74 hF74 hle74=>?_))
  refine ns (wm Z (wa Z (nr (wm Z (wm Z ?_)))))
  obtain⟨c75,hm76⟩:=cs hm73;clear hm73
  refine wq Z (QV.add Z Z Z Z c75) (wa Z (WL.nil (WQ.block ?_)))
  exact Ev x71 b8_1 (b8_1+20) X74 m65 ⟨Ax hm76 hn68,hF74,(hle_1.trans hle74)⟩ (Nat.lt_succ_self _) ⟨Z,Z,Z,Z,Z,Z,trivial⟩ (pk [0,1])
 refine WC.exit (te (te (Ai ?_)))
 exact Ko ows0_1 a7_1 b8_1 k_1 ⟨A6 hm77 hn68,hlows0_1,hle_1⟩ ⟨Z,Z,Z,Z,Z,Z,trivial⟩ (pk [0,1])
theorem E6 {v_x:Value}{x r:List Due}{K0:World} (hm:A7 x=some r) (h_x:SliceLen v_x x.length) (M:Nat→Prop) (w:World) (hk:Base M K0 w) (hw0:Own M w [Bm v_x 151 3 (List.map Due.cells x)] w):Calls Try.prog 93 #[v_x,.func (.func 94) #[] #[]] w (fun e w'=>∃ X:World,e=.returned (.tuple #[])∧Own M w (kn M w.heap.size K0 X::[Bm v_x 151 3 (List.map Due.cells r)]) w'∧SliceLen v_x (r).length):=by
 unfold A7 at hm
 refine Ak (n:=9) (args:=[v_x,.func (.func 94) #[] #[]]) Try.func93 Z Z (nl Z) ?_ (An hk hw0)
 refine WC.region (wm Z (wm Z (wq Z (Ay Try.underlying113 Z Z h_x) (wm Z (Aa Z ?_)))))
 obtain⟨x1,hx2,hm3⟩:=Ag hm;clear hm
 refine(A4 (X:=World) (R:=[Bm v_x 151 3 (List.map Due.cells x)]) (fun X=>.tuple #[]) (fun X=>[Bm v_x 151 3 (List.map Due.cells x1)]) (fun X=>X) (fun X=>SliceLen v_x (x1).length) hk (fun _ h=>by cases h;decide) en119 (ec Z (ec Z (ec Z eN))) (fun M w h1 h2=>have h:=Jg hx2 h_x M w h1 h2;h) (fun X4 hF4 hle4=>?_))
 refine WL.nil ?_
 obtain rfl:=(Ae hm3).symm
 refine F6 Z (fun w hw=>?_)
 exact⟨X4,Z,hw.pick [0,1] (by decide),hF4⟩
end Go.Proofs.Ytaimbkndebaaiac
end
section
namespace Go.Proofs.Ytaimbkndebaaiac
open Go.Rd
open TNum TLoop TStable
namespace TMach
theorem en117:Go.Rd.Enters Try.prog 117:=eT Try.func117
theorem en87:Go.Rd.Enters Try.prog 87:=eT Try.func87
theorem en93:Go.Rd.Enters Try.prog 93:=eT Try.func93
theorem Qx:Bw Try.prog 115 0 0:=fT 6 Try.underlying115
theorem Ta:Bw Try.prog 115 2 10:=fT 0 Try.underlying115
theorem F5:Bw Try.prog 115 5 13:=fT 0 Try.underlying115
theorem Am3:Bw Try.prog 151 1 1:=fT 0 Try.underlying151
theorem Am2:Bw Try.prog 151 2 2:=fT 0 Try.underlying151
theorem Pu:K3 Try.prog 113:=⟨_,Try.underlying113,rfl⟩
theorem Rh:Ia Try.prog 33 2 1:=⟨Try.underlying33,by kernel_rfl⟩
theorem Yx:C8 Try.prog 113 1:=by unfold C8;kernel_rfl
theorem sz2:C8 Try.prog 2 1:=by unfold C8;kernel_rfl
theorem N5:L6 Try.prog 22 3 1 [.int .i64 0]:=⟨Try.underlying22,by kernel_rfl⟩
theorem Su:Rl Try.prog 22 3 1 8:=⟨Try.underlying22,by kernel_rfl,by decide⟩
end TMach
open TMach
theorem T7 {x r:Int} (w:World) (hm:H3 x=some r) :Calls Try.prog 117 #[.int .u64 x] w (fun e w'=>e=.returned (.int .i64 r)∧Grow w w'):=by
 unfold H3 at hm
 have hk:=Base.rfl (w:=w)
 refine Ak (n:=25) (args:=[.int .u64 x]) Try.func117 Z Z (nl Z) ?_ (An hk (Own.start w))
 refine sr (wa Z (nt (WC.seq (sr (wm Z (wq Z (QV.geq Z Z Z Z) (nt ?_)))))))
 obtain⟨o1,hj2,hm3⟩:=Ag hm;clear hm
 refine U1 (H2:=[kn noM w.heap.size w w]) (τ:=[]) (fun (x0_1:Int) (n2_1:Int)=>[(0,(true,.int .u64 x0_1)),(2,(true,i_ n2_1))]) (fun x0_1 n2_1=>[]) (fun x0_1 n2_1=>o1=.go (x0_1,n2_1)) trivial (pk [0]) ?_ ?_
 ·skip
  rintro x0_1 n2_1 rfl
  refine WC.seq (sr (wm Z (wq Z (QV.geq Z Z Z Z) (nt ?_))))
  obtain⟨o4,hj5,hm6⟩:=Ag hm3;clear hm3
  refine U1 (H2:=[kn noM w.heap.size w w]) (τ:=[]) (fun (x0_2:Int) (n2_2:Int)=>[(0,(true,.int .u64 x0_2)),(2,(true,i_ n2_2))]) (fun x0_2 n2_2=>[]) (fun x0_2 n2_2=>o4=.go (x0_2,n2_2)) trivial (pk [0]) ?_ ?_
  ·skip
   rintro x0_2 n2_2 rfl
   refine WC.seq (sr (wm Z (wq Z (QV.geq Z Z Z Z) (nt ?_))))
   refine wc Z hm6 (fun h7 hm8=>?_) (fun h7 hm15=>?_) <;> clear hm6
   ·skip
    refine sr (wm Z (wq Z (O6 Z Z Z Z (by decide)) (wa Z (nr (wm Z ?_)))))
    obtain⟨c9,c11,c13,hm14⟩:=cs3 hm8;clear hm8
    refine wq Z (QV.add Z Z Z Z c9) (wa Z (ns (wm Z (wm Z (wq Z (Wq (Afq (shrD x0_2 8)) (QV.intToInt Try.underlying5 Try.underlying179 Z Z)) (wq Z (Vq Try.underlying9 Z Z Z Z c11) (wq Z (Wq (Y0 (ele len8T ((bt (shrD x0_2 8)).toNat:Int))) (QV.intToInt Try.underlying3 Try.underlying5 Z Z)) (wq Z (QV.add Z Z Z Z c13) (wa Z ?_)))))))))
    refine nt (WC.ret ?_)
    obtain rfl:=(Ae hm14).symm
    exact Ar Z Z fun w hw=>kg hw
   refine sk (WQ.then (sr (wm Z (wm Z (wq Z (Wq (Afq x0_2) (QV.intToInt Try.underlying5 Try.underlying179 Z Z)) ?_)))))
   obtain⟨c16,c18,hm19⟩:=cs2 hm15;clear hm15
   refine wq Z (Vq Try.underlying9 Z Z Z Z c16) (wq Z (Wq (Y0 (ele len8T ((bt x0_2).toNat:Int))) (QV.intToInt Try.underlying3 Try.underlying5 Z Z)) (wq Z (QV.add Z Z Z Z c18) (wa Z (nt (WC.ret ?_)))))
   obtain rfl:=(Ae hm19).symm
   exact Ar Z Z fun w hw=>kg hw
  refine WC.cond Z (fun h20=>?_) (fun h20=>?_)
  ·skip
   have hm21:=Ab1 h20 hj5;clear hj5
   refine sr (wm Z (wq Z (O6 Z Z Z Z (by decide)) (wa Z (nr (wm Z ?_)))))
   obtain⟨c22,hm23⟩:=cs hm21;clear hm21
   refine wq Z (QV.add Z Z Z Z c22) (wa Z (WL.nil ?_))
   exact Cb (shrD x0_1 16) (n2_1+16) (Ae hm23) ⟨Z,Z,trivial⟩ (pk [0])
  have hm24:=Ab2 h20 hj5;clear hj5
  refine sk ?_
  exact Cb x0_1 n2_1 (Ae hm24) ⟨Z,Z,trivial⟩ (pk [0])
 refine WC.cond Z (fun h25=>?_) (fun h25=>?_)
 ·skip
  have hm26:=Ab1 h25 hj2;clear hj2
  refine sr (wm Z (wq Z (O6 Z Z Z Z (by decide)) (wa Z (nr (wa Z (WL.nil ?_))))))
  exact Cb (shrD x 32) 32 (Ae hm26) ⟨Z,Z,trivial⟩ (pk [0])
 have hm27:=Ab2 h25 hj2;clear hj2
 refine sk ?_
 exact Cb x 0 (Ae hm27) ⟨Z,Z,trivial⟩ (pk [0])
theorem Pn {x r:Int} (w:World) (hm:Ey x=some r) :Calls Try.prog 87 #[.int .u64 x] w (fun e w'=>e=.returned (.int .i64 r)∧Grow w w'):=by
 unfold Ey at hm
 have hk:=Base.rfl (w:=w)
 refine Ak (n:=8) (args:=[.int .u64 x]) Try.func87 Z Z (nl Z) ?_ (An hk (Own.start w))
 refine sr (wa Z (nt (WC.seq ?_)))
 refine WC.cond Z (fun h1=>?_) (fun h1=>?_)
 ·skip
  cases h1
 refine sk (WQ.then (sr (wm Z ?_)))
 obtain⟨x2,hx3,hm4⟩:=Ag hm;clear hm
 refine wq Z (QV.call en117 (ec Z eN) (fun w hw=>have h:=T7 w hx3 ;h)) (wa Z (nt (WC.ret ?_)))
 obtain rfl:=(Ae hm4).symm
 exact Ar Z Z fun w hw=>kg hw
theorem Yl {v_memory:Value}{memory:List (List Int)}{r:List Int×Bool}{K0:World} (hm:Hv memory=some r) (h_memory:RowsA K0 v_memory memory) (M:Nat→Prop) (w:World) (hk:Base M K0 w) (hw0:Own M w [] w):Calls Try.prog 55 #[v_memory] w (fun e w'=>∃ X:Value×World,e=.returned (.tuple #[X.1,.bool r.2])∧Own M w (kn M w.heap.size K0 X.2::[]) w'∧Arr X.2 X.1 1 (r.1.map Af)):=by
 unfold Hv at hm
 refine Ak (n:=38) (args:=[v_memory]) Try.func55 Z Z (nl Z) ?_ (An hk hw0)
 refine sr (wa Z (wa Z (ns (wa Z (nt (WC.seq (sr (wm Z (wq Z (Ay Try.underlying32 Z Z h_memory.slen) (wm Z (nt ?_)))))))))))
 refine WK.of (fun w hw=>hw.vecNil (E:=3) (sz:=1) (enc:=Af)) ?_
 obtain⟨o2,ho3,hm4⟩:=Ag hm;clear hm;obtain⟨n5,ho6⟩:=A0 ho3
 refine D2 (H2:=[kn M w.heap.size K0 K0]) (τ:=[u_ 8 _,u_ 9 _]) (fun (v1_1:List Int) (x10_1:Int) (uv1_1:Value)=>[(4,(true,uv1_1)),(10,(true,i_ x10_1))]) (fun v1_1 x10_1 uv1_1=>[vec uv1_1 3 1 (List.map Af v1_1)]) (fun v1_1 x10_1 uv1_1 m=>B3 (Em memory) m (v1_1,x10_1)=some o2∧SliceLen uv1_1 v1_1.length) (fun v1_1 x10_1 uv1_1=>o2=.go (v1_1,x10_1)∧SliceLen uv1_1 v1_1.length) [] 0 (.slice none 0 0) n5 ⟨ho6,SliceLen.nil⟩ ⟨Z,Z,Z,Z,trivial⟩ (pk [0,1]) ?_ ?_
 ·skip
  rintro v1_1 x10_1 uv1_1 ⟨rfl,hlv1_1⟩
  refine WQ.then (sr (wm Z (wa Z (wa Z (nt (WC.ret ?_))))))
  obtain rfl:=(Ae hm4).symm
  refine WK.of (C':=Own M w [kn M w.heap.size K0 K0,vec uv1_1 3 1 (List.map Af v1_1)]) (pk [1,0]) ?_
  refine WK.freeze hk (fun k7 hle7 hr7=>?_)
  have hA7:=Cf hr7
  refine Dn Z Z Z (fun w hw=>?_)
  exact⟨(uv1_1,k7),Z,hw.pick [0] (by decide),hA7⟩
 rintro v1_1 x10_1 uv1_1 m8 ⟨hI9,hlv1_1⟩
 obtain⟨m10,s11,rfl,hm12,hn13⟩:=Ap hI9;clear hI9;unfold Em at hm12;simp only at hm12
 refine sr (wq Z (QV.lss Z Z Z Z) (nt (WC.seq ?_)))
 refine wc Z hm12 (fun h14 hm15=>?_) (fun h14 hm40=>?_) <;> clear hm12
 ·skip
  refine sk (WQ.then (WC.seq (WC.block (sr ?_))))
  obtain⟨c16,hm17⟩:=cs hm15;clear hm15
  obtain⟨p18,u20,hp19,hc21,hA22⟩:=h_memory.ix c16
  refine wq Z (Ad Ri Z Z Z Z hp19) (wl Nc Z (fun w hw=>CellsAt.one 0 ((Am 1 Z hk hc21) w hw) Z) (wa Z (ns (wm Z (wq Z (Ay Try.underlying33 Z Z hA22.lenMap) (wa Z (nt (WC.seq (sr (wm Z (wq Z (QV.eql Z Z Z Z) ?_)))))))))))
  refine wm Z (gn Z (fun hG=>QV.move Z Z) (gn Z (fun hG=>QV.move Z Z) ?_))
  obtain⟨c23,hm24⟩:=cs hm17;clear hm17
  refine gn Z (fun hG=>QV.sub Z hG Z Z (c23 hG)) (gn Z (fun hG=>V8 Z hG Z hG) (gn Z (fun hG=>QV.neq Z hG Z Z) (wq Z (A2 Z Z Z (fun h=>Dv h)) (wm Z (gn Z (fun hG=>QV.move Z Z) (gn Z (fun hG=>QV.gtr Z hG Z Z) (wq Z (A2 Z Z Z (fun h=>Dv h)) (nt ?_))))))))
  refine wc Z hm24 (fun h25 hm26=>?_) (fun h25 hm27=>?_) <;> clear hm24
  ·skip
   refine sr (wa Z (wa Z (nt (WC.ret (tr (kr (tr (tr (kr (tr (tr ?_)))))))))))
   obtain rfl:=Cy hm26 hn13
   obtain rfl:=(Ae hm4).symm
   refine Dn Z Z Z (fun w hw=>?_)
   exact⟨(.slice none 0 0,K0),Z,hw.pick [1] (by decide),Arr.nil⟩
  refine sk (WQ.then (WC.region (wm Z (wm Z (wq Z (QV.intToInt Try.underlying144 Try.underlying3 Z Z) ?_)))))
  obtain⟨x28,hx29,hm30⟩:=Ag hm27;clear hm27
  refine wq Z (QV.call en87 (ec Z eN) (fun w hw=>have h:=Pn w hx29 ;h)) ?_
  obtain⟨c31,c34,c38,hm39⟩:=cs3 hm30;clear hm30
  refine wq Z (QV.sub Z Z Z Z c31) (Aa Z ?_)
  refine(EV.buildSlice (by decide) N5 (by decide) (by decide) (ps:=[(0,.tmp 33)]) (cells:=[i_ (x28 - 1)]) (ec Z eN) (by kernel_rfl) (fun b33=>?_))
  refine Aa Z ?_
  refine(Bx (enc:=Af) (xs:=v1_1) (ys:=[(x28 - 1)]) ((v1_1++[(x28 - 1)])) 1 (by decide) Su Z Z Z Z Z (Bj 0 (rows:=[(x28 - 1)].map Af) Z Z (B5 Bf)) Bf (Cz _) Z c34.1 c34.2 (fun u36 hu37=>?_))
  refine wa Z (WL.nil (WQ.block (WQ.then (WC.region (wq Z (QV.add Z Z Z Z c38) (wm Z (WL.nil ?_)))))))
  exact C4 (v1_1++[(x28 - 1)]) (x10_1+1) u36 m10 ⟨Ax hm39 hn13,hu37⟩ (Nat.lt_succ_self _) ⟨Z,Z,Z,Z,trivial⟩ (pk [1,2])
 refine WC.exit (te (te (Ai ?_)))
 exact Gw v1_1 x10_1 uv1_1 ⟨A6 hm40 hn13,hlv1_1⟩ ⟨Z,Z,Z,Z,trivial⟩ (pk [0,1])
theorem Dd {p_m:Addr}{v_m_Kernel_Ops v_m_regs v_m_memory v_m_pending:Value}{m_Target:Tgt}{m_Kernel_Pace m_Kernel_Stages m_turns r_ pace r:Int} (w:World) (hm:B4 m_Target m_Kernel_Pace m_Kernel_Stages m_turns r_ pace=some r) (hp_m:CellsAt w p_m [.int .i64 m_Target.u0,.int .i64 m_Target.u1,.int .i64 m_Target.u2,.int .i64 m_Target.w0,.int .i64 m_Target.w1,.int .i64 m_Target.w2,.int .i64 m_Target.regs,.int .i64 m_Kernel_Pace,.int .i64 m_Kernel_Stages,v_m_Kernel_Ops,v_m_regs,v_m_memory,.int .i64 m_turns,v_m_pending] 0):Calls Try.prog 90 #[.pointer (some p_m),.int .i64 r_,.int .i64 pace] w (fun e w'=>e=.returned (.int .i64 r)∧Grow w w'):=by
 unfold B4 at hm
 have hk:=Base.rfl (w:=w)
 refine Ak (n:=16) (args:=[.pointer (some p_m),i_ r_,i_ pace]) Try.func90 Z Z (nl Z) ?_ (An hk (Own.start w))
 refine sr (wa Z (ns (wm Z (wm Z ?_))))
 obtain⟨c1,c3,hm4⟩:=cs2 hm;clear hm
 refine wq Z (QV.add Z Z Z Z c1) (wm Z (wq Z (QV.nilCheck Z Z) (wf Qx Z (wf H8 Z (wl pl3 Z (fun w hw=>CellsAt.one 6 ((Am 0 Z hk hp_m) w hw) Z) (wq Z (QV.rem Z Z Z Z c3) (wa Z (nt (WC.ret ?_)))))))))
 obtain rfl:=(Ae hm4).symm
 exact Ar Z Z fun w hw=>kg hw
theorem K5 {v_m_Kernel_Ops v_m_regs v_m_memory:Value}{hs_m_memory:List Value}{v_m_pending:Value}{b_m:Nat}{m_Target:Tgt}{m_Kernel_Pace m_Kernel_Stages:Int}{m_Kernel_Ops:List Opr}{m_regs:List Int}{m_memory:List (List Int)}{m_turns:Int}{m_pending:List Due}{cycle:Int}{r:List Int×List Due}{K0:World} (hm:Cq m_Target m_Kernel_Pace m_Kernel_Stages m_Kernel_Ops m_regs m_memory m_turns m_pending cycle=some r) (h_m_Kernel_Ops:Arr K0 v_m_Kernel_Ops 10 (m_Kernel_Ops.map Opr.cells)) (h_m_regs:SliceLen v_m_regs m_regs.length) (h_m_memory:SliceLen v_m_memory m_memory.length) (hg_m_memory:GL hs_m_memory m_memory) (h_m_pending:SliceLen v_m_pending m_pending.length) (M:Nat→Prop) (w:World) (hk:Base M K0 w) (hw0:Own M w [blk b_m [.int .i64 m_Target.u0,.int .i64 m_Target.u1,.int .i64 m_Target.u2,.int .i64 m_Target.w0,.int .i64 m_Target.w1,.int .i64 m_Target.w2,.int .i64 m_Target.regs,.int .i64 m_Kernel_Pace,.int .i64 m_Kernel_Stages,v_m_Kernel_Ops,v_m_regs,v_m_memory,.int .i64 m_turns,v_m_pending] 115,vec v_m_regs 2 1 (List.map Af m_regs),Bv v_m_memory hs_m_memory 33 2 m_memory,Bm v_m_pending 151 3 (List.map Due.cells m_pending)] w):Calls Try.prog 59 #[.pointer (some (⟨b_m,0,none⟩)),.int .i64 cycle] w (fun e w'=>∃ X:Value×Value×World,e=.returned (.tuple #[])∧Own M w (kn M w.heap.size K0 X.2.2::[blk b_m [.int .i64 m_Target.u0,.int .i64 m_Target.u1,.int .i64 m_Target.u2,.int .i64 m_Target.w0,.int .i64 m_Target.w1,.int .i64 m_Target.w2,.int .i64 m_Target.regs,.int .i64 m_Kernel_Pace,.int .i64 m_Kernel_Stages,v_m_Kernel_Ops,X.1,v_m_memory,.int .i64 m_turns,X.2.1] 115,Bv v_m_memory hs_m_memory 33 2 m_memory,vec X.1 2 1 (List.map Af r.1),Bm X.2.1 151 3 (List.map Due.cells r.2)]) w'∧SliceLen X.1 (r.1).length∧SliceLen X.2.1 (r.2).length):=by
 unfold Cq at hm
 refine Ak (n:=61) (args:=[.pointer (some (⟨b_m,0,none⟩)),i_ cycle]) Try.func59 Z Z (nl Z) ?_ (An hk hw0)
 refine sr (wm Z (wq Z (QV.nilCheck Z Z) (wf F5 Z (wl Pu Z (Own.cell 1 Z Z) (Aa Z ?_)))))
 obtain⟨x1,hx2,hm3⟩:=Ag hm;clear hm
 refine EV.of (C':=Own M w [kn M w.heap.size K0 K0,Bm v_m_pending 151 3 (List.map Due.cells m_pending),blk b_m [i_ m_Target.u0,i_ m_Target.u1,i_ m_Target.u2,i_ m_Target.w0,i_ m_Target.w1,i_ m_Target.w2,i_ m_Target.regs,i_ m_Kernel_Pace,i_ m_Kernel_Stages,v_m_Kernel_Ops,v_m_regs,v_m_memory,i_ m_turns,v_m_pending] 115,vec v_m_regs 2 1 (List.map Af m_regs),Bv v_m_memory hs_m_memory 33 2 m_memory]) (pk [0,4,1,2,3]) ?_
 refine(A4 (X:=World) (R:=[Bm v_m_pending 151 3 (List.map Due.cells m_pending)]) (fun X=>.tuple #[]) (fun X=>[Bm v_m_pending 151 3 (List.map Due.cells x1)]) (fun X=>X) (fun X=>SliceLen v_m_pending (x1).length) hk (fun _ h=>by cases h;decide) en93 (ec Z (ec Z eN)) (fun M w h1 h2=>have h:=E6 hx2 h_m_pending M w h1 h2;h) (fun X4 hF4 hle4=>?_))
 refine ns (wa Z (nt (WC.seq ?_)))
 obtain⟨o5,ho6,hm7⟩:=Ag hm3;clear hm3;obtain⟨n8,ho9⟩:=A0 ho6
 refine Bz (H2:=[kn M w.heap.size K0 X4,Bm v_m_pending 151 3 (List.map Due.cells x1),blk b_m [i_ m_Target.u0,i_ m_Target.u1,i_ m_Target.u2,i_ m_Target.w0,i_ m_Target.w1,i_ m_Target.w2,i_ m_Target.regs,i_ m_Kernel_Pace,i_ m_Kernel_Stages,v_m_Kernel_Ops,v_m_regs,v_m_memory,i_ m_turns,v_m_pending] 115,Bv v_m_memory hs_m_memory 33 2 m_memory]) (τ:=[u_ 0 _,u_ 1 _]) (fun (own0v10_1:List Int) (n4_1:Int)=>[(4,(true,i_ n4_1))]) (fun own0v10_1 n4_1=>[vec v_m_regs 2 1 (List.map Af own0v10_1)]) (fun own0v10_1 n4_1 m=>B3 (C2 cycle x1) m (own0v10_1,n4_1)=some o5∧SliceLen v_m_regs own0v10_1.length) (fun own0v10_1 n4_1=>o5=.go (own0v10_1,n4_1)∧SliceLen v_m_regs own0v10_1.length) m_regs 0 n8 ⟨ho9,h_m_regs⟩ ⟨Z,Z,Z,trivial⟩ (pk [3,0,1,2,4]) ?_ ?_
 ·skip
  rintro own0v10_1 n4_1 ⟨rfl,hlown0v10_1⟩
  refine WQ.then (WC.region (wm Z (wm Z (wq Z (QV.nilCheck Z Z) (wf F5 Z (wl Pu Z (Own.cell 3 Z Z) (wm Z ?_)))))))
  obtain⟨c10,hm11⟩:=cs hm7;clear hm7
  refine wq Z (Sq Gu Z Z hF4 Z Z c10) (wq Z (QV.nilCheck Z Z) (wf F5 Z (Aa Z ?_)))
  refine EV.of (C':=Own M w [Bm v_m_pending 151 3 (List.map Due.cells x1),vec v_m_regs 2 1 (List.map Af own0v10_1),kn M w.heap.size K0 X4,blk b_m [i_ m_Target.u0,i_ m_Target.u1,i_ m_Target.u2,i_ m_Target.w0,i_ m_Target.w1,i_ m_Target.w2,i_ m_Target.regs,i_ m_Kernel_Pace,i_ m_Kernel_Stages,v_m_Kernel_Ops,v_m_regs,v_m_memory,i_ m_turns,v_m_pending] 115,Bv v_m_memory hs_m_memory 33 2 m_memory]) (pk [2,0,1,3,4]) ?_
  have hl12:=Oe (sz:=3) hF4 c10
  refine EV.of (C':=Own M w [Bm (Lr v_m_pending 3 (Int.toNat n4_1) (Int.toNat (ln x1))) 151 3 (List.map Due.cells (sub x1 n4_1 (ln x1))),vec v_m_regs 2 1 (List.map Af own0v10_1),kn M w.heap.size K0 X4,blk b_m [i_ m_Target.u0,i_ m_Target.u1,i_ m_Target.u2,i_ m_Target.w0,i_ m_Target.w1,i_ m_Target.w2,i_ m_Target.regs,i_ m_Kernel_Pace,i_ m_Kernel_Stages,v_m_Kernel_Ops,v_m_regs,v_m_memory,i_ m_turns,v_m_pending] 115,Bv v_m_memory hs_m_memory 33 2 m_memory]) (fun w hw=>hw.ovecCut (Ao3 c10) (Al9 c10)) ?_
  refine(EV.store 3 Z Z Z Z Z Z (vs:=[(Lr v_m_pending 3 (Int.toNat n4_1) (Int.toNat (ln x1)))]) (SliceLen.cells hl12) Yx (nl Z) (oc (SliceLen.one hl12) Aw) ?_)
  refine WL.nil ?_
  obtain rfl:=(Ae hm11).symm
  refine F6 Z (fun w hw=>?_)
  exact⟨(v_m_regs,(Lr v_m_pending 3 (Int.toNat n4_1) (Int.toNat (ln x1))),X4),Z,hw.pick [2,3,4,1,0] (by decide),hlown0v10_1,hl12⟩
 rintro own0v10_1 n4_1 m13 ⟨hI14,hlown0v10_1⟩
 obtain⟨m15,s16,rfl,hm17,hn18⟩:=Ap hI14;clear hI14;unfold C2 at hm17;simp only at hm17
 refine WC.seq (sr (wm Z (wm Z (wq Z (QV.nilCheck Z Z) (wf F5 Z (wl Pu Z (Own.cell 3 Z Z) (wq Z (Ay Try.underlying113 Z Z hF4) (wq Z (QV.lss Z Z Z Z) (wm Z (gp Z (fun hG=>QV.move Z Z) ?_))))))))))
 refine gp Z (fun hG=>QV.nilCheck Z hG) (gp Z (fun hG=>QV.fieldAddr F5 Z hG) (gp Z (fun hG=>QV.load Pu Z hG (Own.cell 3 Z Z)) (gp Z (fun hG=>QV.move Z Z) ?_)))
 obtain⟨c19,hm20⟩:=cs hm17;clear hm17
 obtain⟨p21,hp22⟩:=hF4.ixG (sz:=3) Au c19
 refine gp Z (fun hG=>Ad Gu Z hG Z hG (hp22 hG)) (gp Z (fun hG=>QV.fieldAddr Aa7 Z hG) (gp Z (fun hG=>QV.load pl3 Z hG (fun w hw=>CellsAt.one 0 (((Cj 2 Z) w hw).ele (hp22 hG) (c19 hG)) Z)) (gp Z (fun hG=>QV.move Z Z) (gp Z (fun hG=>QV.leq Z hG Z hG) (wq Z (Az Z Z Z (fun h=>h)) (nt ?_))))))
 refine wc Z hm20 (fun h23 hm24=>?_) (fun h23 hm40=>?_) <;> clear hm20
 ·skip
  refine sk (WQ.then (WC.seq (WC.block (B9 (m:=22) (S:=Own M w [kn M w.heap.size K0 X4,vec v_m_regs 2 1 (List.map Af own0v10_1),Bm v_m_pending 151 3 (List.map Due.cells x1),blk b_m [i_ m_Target.u0,i_ m_Target.u1,i_ m_Target.u2,i_ m_Target.w0,i_ m_Target.w1,i_ m_Target.w2,i_ m_Target.regs,i_ m_Kernel_Pace,i_ m_Kernel_Stages,v_m_Kernel_Ops,v_m_regs,v_m_memory,i_ m_turns,v_m_pending] 115,Bv v_m_memory hs_m_memory 33 2 m_memory]) (by kernel_rfl) (by kernel_rfl) (pk [1,0,2,3,4]) (zm 0 Z Z (wz 1 Z Z (QV.nilCheck Z Z) (zf 2 Ta Z Z (zl 3 Nc Z Z (Own.cell 3 Z Z) (zm 4 Z Z (wz 5 Z Z (QV.nilCheck Z Z) (zf 6 F5 Z Z (zl 7 Pu Z Z (Own.cell 3 Z Z) ?_))))))))))))
  refine zm 8 Z Z ?_
  obtain⟨c25,hm26⟩:=cs hm24;clear hm24
  obtain⟨p27,hp28⟩:=hF4.ix (sz:=3) Au c25
  refine wz 9 Z Z (Ad Gu Z Z Z Z hp28) (zf 10 Am3 Z Z (zl 11 pl3 Z Z (fun w hw=>CellsAt.one 1 (((Cj 2 Z) w hw).ele hp28 c25) Z) (zm 12 Z Z (wz 13 Z Z (QV.nilCheck Z Z) (zf 14 F5 Z Z (zl 15 Pu Z Z (Own.cell 3 Z Z) (zm 16 Z Z ?_)))))))
  obtain⟨c29,hm30⟩:=cs hm26;clear hm26
  obtain⟨p31,hp32⟩:=hF4.ix (sz:=3) Au c29
  refine wz 17 Z Z (Ad Gu Z Z Z Z hp32) (zf 18 Am2 Z Z (zl 19 pl2 Z Z (fun w hw=>CellsAt.one 2 (((Cj 2 Z) w hw).ele hp32 c29) Z) ?_))
  obtain⟨c33,hm34⟩:=cs hm30;clear hm30
  obtain⟨p35,hp36⟩:=hlown0v10_1.ix (sz:=1) Au c33
  refine wz 20 Z Z (Ad Rh Z Z Z Z hp36) ?_
  refine WD.l 21 Z (by kernel_rfl) Z ?_
  refine(Ot 0 ((ele x1 n4_1).v) Ob Z Z Z Z Z hp36 Z Z sz2 ?_)
  have hl37:SliceLen v_m_regs (upd own0v10_1 ((ele x1 n4_1).reg) ((ele x1 n4_1).v)).length:=Fm hlown0v10_1
  refine WQ.block (WQ.then (WC.region (wm Z ?_)))
  obtain⟨c38,hm39⟩:=cs hm34;clear hm34
  refine wq Z (QV.add Z Z Z Z c38) (wa Z (WL.nil ?_))
  exact Bn (upd own0v10_1 ((ele x1 n4_1).reg) ((ele x1 n4_1).v)) (n4_1+1) m15 ⟨Ax hm39 hn18,hl37⟩ (Nat.lt_succ_self _) ⟨Z,Z,Z,trivial⟩ (pk [0,1,2,3,4])
 refine WC.exit (te (te (Ai ?_)))
 exact Cb own0v10_1 n4_1 ⟨A6 hm40 hn18,hlown0v10_1⟩ ⟨Z,Z,Z,trivial⟩ (pk [0,1,2,3,4])
end Go.Proofs.Ytaimbkndebaaiac
end