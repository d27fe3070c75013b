/- Texts for the law, 3. -/
import Derived.Test.YtaimbkndebaaiacZLbuildRuns2
set_option linter.unusedVariables false
set_option linter.unusedSimpArgs false
set_option maxRecDepth 8000
section
namespace Go.Rd
theorem Ew {γ ρ:Type}{f:γ→Option (Stp γ ρ)} (st:Nat→γ) (n:Nat) (step:∀ i,i<n→f (st i)=some (.next (st (i+1)))) (hend:f (st n)=some (.brk (st n))):lp f (st 0)=some (.go (st n)):=by
 have key:∀ m i:Nat,i+m=n→lp f (st i)=some (.go (st n)):=by
  intro m
  induction m with
  | zero =>
   intro i hi
   have:i=n:=by omega
   subst this
   exact C0 hend
  | succ m ih=>exact fun i hi=>Cr (step i (by omega)) (ih (i+1) (by omega))
 exact key n 0 (by omega)
theorem Iz {γ ρ:Type}{f:γ→Option (Stp γ ρ)} (st:Nat→γ) (n:Nat) (p:Nat→Prop) (q:Nat→ρ) (step:∀ i,i<n→(∀ j,j<i→p j)→(p i→f (st i)=some (.next (st (i+1))))∧(¬p i→f (st i)=some (.ret (q i)))) (hend:f (st n)=some (.brk (st n))) :
  ((∀ i,i<n→p i)∧lp f (st 0)=some (.go (st n)))∨(∃ i,i<n∧¬p i∧(∀ j,j<i→p j)∧lp f (st 0)=some (.ret (q i))):=by
 have key:∀ m i:Nat,i+m=n→(∀ j,j<i→p j)→((∀ i,i<n→p i)∧lp f (st i)=some (.go (st n)))∨(∃ k,k<n∧¬p k∧(∀ j,j<k→p j)∧lp f (st i)=some (.ret (q k))):=by
  intro m
  induction m with
  | zero =>
   intro i hi hp
   have:i=n:=by omega
   subst this
   exact .inl ⟨hp,C0 hend⟩
  | succ m ih =>
   intro i hi hp
   obtain⟨h1,h2⟩:=step i (by omega) hp
   by_cases hpi:p i
   ·have hp':∀ j,j<i+1→p j:=fun j hj=>by
     by_cases e:j=i
     ·subst e;exact hpi
     ·exact hp j (by omega)
    rcases ih (i+1) (by omega) hp' with ⟨a,b⟩ | ⟨k,a,b,c,d⟩
    ·exact .inl ⟨a,Cr (h1 hpi) b⟩
    ·exact .inr ⟨k,a,b,c,Cr (h1 hpi) d⟩
   ·exact .inr ⟨i,by omega,hpi,hp,K8 (h2 hpi)⟩
 exact key n 0 (by omega) (fun j hj=>absurd hj (Nat.not_lt_zero _))
theorem S9 {α γ ρ:Type}{f:γ→Option (Stp γ ρ)} (mk:α→Int→γ) {n:Nat} (Inv:Nat→α→Prop) (step:∀ (i:Nat) g,i<n→Inv i g→∃ g',f (mk g (i:Int))=some (.next (mk g' ((i:Int)+1)))∧Inv (i+1) g') (hend:∀ g,f (mk g (n:Int))=some (.brk (mk g (n:Int)))) (g0:α) (h0:Inv 0 g0) :
  ∃ g,lp f (mk g0 0)=some (.go (mk g (n:Int)))∧Inv n g:=by
 have key:∀ m i:Nat,i+m=n→∀ g,Inv i g→∃ g',lp f (mk g (i:Int))=some (.go (mk g' (n:Int)))∧Inv n g':=by
  intro m
  induction m with
  | zero =>
   intro i hi g hg
   have:i=n:=by omega
   subst this
   exact⟨g,C0 (hend g),hg⟩
  | succ m ih =>
   intro i hi g hg
   obtain⟨g',h1,h2⟩:=step i g (by omega) hg
   obtain⟨g2,h3,h4⟩:=ih (i+1) (by omega) g' h2
   exact⟨g2,Cr h1 h3,h4⟩
 exact key n 0 (by omega) g0 h0
theorem Amo {α ρ:Type}{f:α×Int→Option (Stp (α×Int) ρ)}{n:Nat} (Inv:Nat→α→Prop) (Rr:ρ→Prop) (step:∀ (i:Nat) g,i<n→Inv i g→(∃ g',f (g,(i:Int))=some (.next (g',(i:Int)+1))∧Inv (i+1) g')∨(∃ r,f (g,(i:Int))=some (.ret r)∧Rr r)) (hend:∀ g,f (g,(n:Int))=some (.brk (g,(n:Int)))) (g0:α) (h0:Inv 0 g0) :
  (∃ g,lp f (g0,0)=some (.go (g,(n:Int)))∧Inv n g)∨(∃ r,lp f (g0,0)=some (.ret r)∧Rr r):=by
 have key:∀ m i:Nat,i+m=n→∀ g,Inv i g→(∃ g',lp f (g,(i:Int))=some (.go (g',(n:Int)))∧Inv n g')∨(∃ r,lp f (g,(i:Int))=some (.ret r)∧Rr r):=by
  intro m
  induction m with
  | zero =>
   intro i hi g hg
   have:i=n:=by omega
   subst this
   exact .inl ⟨g,C0 (hend g),hg⟩
  | succ m ih =>
   intro i hi g hg
   rcases step i g (by omega) hg with ⟨g',h1,h2⟩ | ⟨r,h1,h2⟩
   ·rcases ih (i+1) (by omega) g' h2 with ⟨g2,h3,h4⟩ | ⟨r,h3,h4⟩
    ·exact .inl ⟨g2,Cr h1 h3,h4⟩
    ·exact .inr ⟨r,Cr h1 h3,h4⟩
   ·exact .inr ⟨r,K8 h1,h2⟩
 exact key n 0 (by omega) g0 h0
theorem Fa {α:Type} [Inhabited α] {n:Nat}{g:Nat→α}{i:Nat} (h:i<n):ele ((List.range n).map g) (i:Int)=g i:=by
 rw[Cs,List.getD_eq_getElem?_getD,List.getElem?_map,List.getElem?_range h];rfl
theorem U8 {α:Type}{n:Nat}{g:Nat→α}:ln ((List.range n).map g)=n:=by unfold ln;simp
theorem rm_succ {α:Type}{n:Nat}{g:Nat→α}:(List.range n).map g++[g n]=(List.range (n+1)).map g:=by rw[List.range_succ,List.map_append];rfl
theorem R0 {α:Type} [Inhabited α] {n:Nat}{g:Nat→α}{i:Nat} (h:i<n) {x:α}:upd ((List.range n).map g) (i:Int) x=(List.range n).map (fun j=>if j=i then x else g j):=by
 apply List.ext_getElem?
 intro j
 unfold upd
 rw[List.getElem?_set,List.getElem?_map]
 by_cases hj:j<n
 ·rw[List.getElem?_map,List.getElem?_range hj]
  by_cases e:j=i
  ·subst e;simp[h]
  ·simp[show ¬i=j from fun h=>e h.symm,e]
 ·rw[List.getElem?_map,List.getElem?_eq_none (by simp;omega)]
  have:¬i=j:=by omega
  simp[this]
theorem Gy {α:Type}{n:Nat}{g h:Nat→α} (e:∀ i,i<n→g i=h i):(List.range n).map g=(List.range n).map h:=List.map_congr_left fun i hi=>e i (List.mem_range.1 hi)
theorem AL80 {n:Nat} (h:n≤100000):AL n 80:=⟨by show n≤9223372036854775807;omega,by omega⟩
noncomputable def F9 (a b:Int):Option (Int) :=
 ck (b≠0) <|
 ck (IR ((Int.tmod a b)+b)) <|
 ck (b≠0) <|
 some (Int.tmod ((Int.tmod a b)+b) b)
noncomputable def Ja (t:Tgt) (dests:List Int):Int→Option (Stp (Int) (Krn×Int)):=fun x35_1 =>
 br (decide (x35_1<(ln dests))) (
 ck (IX x35_1 (ln dests)) <|
 br ((decide ((ele dests x35_1)<0)) || (decide ((ele dests x35_1)≥t.regs))) (
 some (.ret ((Krn.mk 0 0 []),2))) (
 ck (IR (x35_1+1)) <|
 some (.next (x35_1+1)))) (
 some (.brk x35_1))
noncomputable def Ge (t:Tgt) (p:Pln) (dests:List Int) (x49:List Rf):((List Int)×Int)→Option (Stp ((List Int)×Int) (Empty)):=fun (b48n_6,x94_6) =>
 br (decide (x94_6<(ln x49))) (
 ck (IX x94_6 (ln x49)) <|
 ck (IX ((ele x49 x94_6).st) (ln dests)) <|
 ck (IX ((ele x49 x94_6).st) (ln p.times)) <|
 ck (p.pace≠0) <|
 ck (IR (Int.tdiv (ele p.times ((ele x49 x94_6).st)) p.pace)) <|
 ck (IR ((ele dests ((ele x49 x94_6).st))+(Int.tdiv (ele p.times ((ele x49 x94_6).st)) p.pace))) <|
 ck (IR (((ele dests ((ele x49 x94_6).st))+(Int.tdiv (ele p.times ((ele x49 x94_6).st)) p.pace)) - (ele x49 x94_6).bk)) <|
 ck (IX 1 (ln b48n_6)) <|
 ck (IR ((((ele dests ((ele x49 x94_6).st))+(Int.tdiv (ele p.times ((ele x49 x94_6).st)) p.pace)) - (ele x49 x94_6).bk) - (ele b48n_6 1))) <|
 bd (F9 ((((ele dests ((ele x49 x94_6).st))+(Int.tdiv (ele p.times ((ele x49 x94_6).st)) p.pace)) - (ele x49 x94_6).bk) - (ele b48n_6 1)) t.regs) fun x85 =>
 ck (IX x94_6 2) <|
 ck (IX (4+x94_6) (ln b48n_6)) <|
 ck (IR (x94_6+1)) <|
 some (.next ((upd b48n_6 (4+x94_6) x85),(x94_6+1)))) (
 some (.brk (b48n_6,x94_6)))
noncomputable def Gf (l:Lp) (t:Tgt) (p:Pln) (dests:List Int):((List Opr)×Int×Int)→Option (Stp ((List Opr)×Int×Int) (Empty)):=fun (v17_5,b16c1_5,x55_5) =>
 br (decide (x55_5<(ln l.body))) (
 ck (IX x55_5 (ln l.body)) <|
 ck (IX x55_5 (ln p.times)) <|
 ck (p.pace≠0) <|
 ck (IX x55_5 (ln p.times)) <|
 ck (p.pace≠0) <|
 ck (IR (Int.tdiv (ele p.times x55_5) p.pace)) <|
 ck (IX x55_5 (ln dests)) <|
 bd (Dh (ele l.body x55_5)) fun x49 =>
 bd (lp (Ge t p dests x49) (([(Int.tmod (ele p.times x55_5) p.pace),(Int.tdiv (ele p.times x55_5) p.pace),(ele l.body x55_5).op,(ele dests x55_5),0,0,(ele l.body x55_5).ar,(ele l.body x55_5).sp,(ele l.body x55_5).pl,(ele l.body x55_5).n]:List Int),0)) fun o53=>o53.on (fun (b48n_6,x94_6) =>
 ck (b48n_6.length=10) <|
 ck (AL (v17_5++[(Ro b48n_6)]).length 80) <|
 ck (IX 1 (ln b48n_6)) <|
 ck (IR ((ele b48n_6 1)+1)) <|
 ck (IR (x55_5+1)) <|
 some (.next ((v17_5++[(Ro b48n_6)]),(max b16c1_5 ((ele b48n_6 1)+1)),(x55_5+1)))) (fun r=>r.elim)) (
 some (.brk (v17_5,b16c1_5,x55_5)))
noncomputable def L3 (l:Lp) (t:Tgt) (p:Pln) (dests:List Int):Option (Krn×Int) :=
 bd (Hq l t p) fun x5 =>
 br ((!x5) || ((ln dests) != (ln l.body))) (
 some ((Krn.mk 0 0 []),2)) (
 bd (lp (Ja t dests) 0) fun o11=>o11.on (fun x35_1 =>
 bd (lp (Gf l t p dests) ([],0,0)) fun o18=>o18.on (fun (v17_5,b16c1_5,x55_5) =>
 some ((Krn.mk p.pace b16c1_5 v17_5),0)) (fun r=>r.elim)) (fun r=>some r))
def Dp (p:Pln) (i:Int):Int:=Int.tdiv (ele p.times i) p.pace
def Z5 (t:Tgt) (p:Pln) (ds:List Int) (i:Int) (r:Rf):Int:=(ele ds r.st+Dp p r.st - r.bk - Dp p i) % t.regs
def abV (t:Tgt) (p:Pln) (ds:List Int) (i:Int) (us:List Rf):Int×Int:=match us with | []=>(0,0) | [a]=>(Z5 t p ds i a,0) | a::b::_=>(Z5 t p ds i a,Z5 t p ds i b)
def Abz (l:Lp) (t:Tgt) (p:Pln) (ds:List Int) (i:Int) (us:List Rf):Opr :=
 ⟨Int.tmod (ele p.times i) p.pace,Dp p i,(ele l.body i).op,ele ds i,(abV t p ds i us).1,(abV t p ds i us).2,(ele l.body i).ar,(ele l.body i).sp,(ele l.body i).pl,(ele l.body i).n⟩
def Kn (p:Pln):Nat→Int
 | 0=>0
 | i+1=>max (Kn p i) (Dp p i+1)
def Uk (t:Tgt) (ds:List Int) (i:Nat):Prop:=0≤ele ds (i:Int)∧ele ds (i:Int)<t.regs
def Ad4 (l:Lp) (t:Tgt) (p:Pln) (ds:List Int):Krn:=⟨p.pace,Kn p l.body.length,(List.range l.body.length).map fun i:Nat=>Abz l t p ds i (A3 (ele l.body (i:Int)))⟩
def S6 (l:Lp) (t:Tgt) (p:Pln) (ds:List Int):Prop:=LegalP l t p∧ds.length=l.body.length∧∀ i,i<l.body.length→Uk t ds i
theorem R4 {p:Pln}{i:Nat} (hp:1≤p.pace∧p.pace≤200) (hr:Pr p i):0≤Dp p i∧Dp p i≤1000:=by
 unfold Dp
 obtain⟨h1,h2⟩:=hr
 rw[Int.tdiv_eq_ediv_of_nonneg h1]
 exact⟨Int.ediv_nonneg h1 (by omega),Int.le_trans (Int.ediv_le_self _ h1) h2⟩
theorem Tb {a b:Int} (hb:1≤b) (hB:b≤128):F9 a b=some (a % b):=by
 have ht:=Jp a (show 0<b by omega)
 unfold F9
 rw[Ao (by omega),Aj (by omega) (by omega),Ao (by omega)]
 congr 1
 rw[Int.tmod_eq_emod_of_nonneg (by omega),Int.add_emod_right]
 have h:=Int.tmod_add_mul_tdiv a b
 rw[show Int.tmod a b=a - b * Int.tdiv a b from by omega,Int.sub_mul_emod_self_left]
theorem Al3 {l:Lp}{t:Tgt}{p:Pln}{ds:List Int} (h:S6 l t p ds) {i:Nat} (hi:i<l.body.length) {r:Rf} (hr:r∈A3 (ele l.body (i:Int))) :
  (0≤r.st∧r.st<l.body.length)∧(0≤r.bk∧r.bk≤3)∧(0≤Dp p r.st∧Dp p r.st≤1000)∧(0≤Dp p i∧Dp p i≤1000)∧(0≤ele ds r.st∧ele ds r.st<128)∧(1≤t.regs∧t.regs≤128):=by
 have h1:=S7 h.1.loop hi hr
 have h2:=h1.st (by omega)
 obtain⟨k,hk⟩:=Int.eq_ofNat_of_zero_le h2.1
 have hk':k<l.body.length:=by omega
 have ht:=h.1.tgt
 rw[Dj] at ht
 have h3:=h.2.2 k hk'
 rw[hk]
 unfold Uk at h3
 exact⟨by omega,⟨h1.1,h1.2.1⟩,R4 h.1.pace (h.1.rng k hk'),R4 h.1.pace (h.1.rng i hi),by omega,ht.2.2.2⟩
theorem Am7 {l:Lp}{t:Tgt}{p:Pln}{ds:List Int} (h:S6 l t p ds) {i:Nat} (hi:i<l.body.length) {us:List Rf} (hu:∀ r∈us,r∈A3 (ele l.body (i:Int))) {j:Nat} (hj:j<us.length) (hj2:j<2) {b:List Int} (hb:b.length=10) (hb1:ele b 1=Dp p i) :
  Ge t p ds us (b,(j:Int))=some (.next (upd b (4+(j:Int)) (Z5 t p ds i (ele us (j:Int))),(j:Int)+1)):=by
 obtain⟨q1,q2,q3,q4,q5,q6⟩:=Al3 h hi (hu _ (Cv hj))
 have hl:=h.1.len
 have hd:=h.2.1
 have hp:=h.1.pace
 unfold Ge
 simp only
 unfold Z5
 unfold Dp at *
 rw[Bu (by unfold ln;omega),Av (by omega) (by unfold ln;omega),Av (by omega) (by unfold ln;omega),Av (by omega) (by unfold ln;omega),Ao (by omega),Aj (by omega) (by omega),Aj (by omega) (by omega),Aj (by omega) (by omega),Av (by omega) (by unfold ln;omega),hb1,Aj (by omega) (by omega),Tb (by omega) (by omega),bd_ret,
  Av (by omega) (by omega),Av (by omega) (by unfold ln;omega),Aj (by omega) (by omega)]
theorem Ae6 {l:Lp}{t:Tgt}{p:Pln}{ds:List Int} (h:S6 l t p ds) {i:Nat} (hi:i<l.body.length) {c1 c2 c3 c4 c5 c6 c7:Int} :
  ∃ b,lp (Ge t p ds (A3 (ele l.body (i:Int)))) ([c1,Dp p i,c2,c3,0,0,c4,c5,c6,c7],0)=some (.go (b,((A3 (ele l.body (i:Int))).length:Int)))∧b=[c1,Dp p i,c2,c3,(abV t p ds i (A3 (ele l.body (i:Int)))).1,(abV t p ds i (A3 (ele l.body (i:Int)))).2,c4,c5,c6,c7]:=by
 have hlen:=J7 (ele l.body (i:Int))
 have hin:=fun {j:Nat} hj hj2 {b:List Int} hb hb1=>Am7 h hi (us:=A3 (ele l.body (i:Int))) (fun r hr=>hr) (j:=j) hj hj2 (b:=b) hb hb1
 generalize A3 (ele l.body (i:Int))=us at *
 have hend:∀ b:List Int,Ge t p ds us (b,(us.length:Int))=some (.brk (b,(us.length:Int))):=fun b=>by
  unfold Ge;exact Bt (by unfold ln;omega)
 match us,hlen with
 | [],_=>exact⟨_,C0 (hend _),rfl⟩
 | [a],_ =>
  refine⟨_,Cr (hin (j:=0) (by simp) (by omega) rfl rfl) (C0 (hend _)),rfl⟩
 | [a,c],_ =>
  refine⟨_,Cr (hin (j:=0) (by simp) (by omega) rfl rfl) (Cr (hin (j:=1) (by simp) (by omega) rfl rfl) (C0 (hend _))),rfl⟩
theorem Aht {l:Lp}{t:Tgt}{p:Pln}{ds:List Int} (h:S6 l t p ds):lp (Gf l t p ds) ([],0,0)=some (.go ((Ad4 l t p ds).ops,(Ad4 l t p ds).stages,(l.body.length:Int))):=by
 have hl:=h.1.len
 have hd:=h.2.1
 have hp:=h.1.pace
 have hn:=h.1.loop.2.2.1
 refine Ew (f:=Gf l t p ds) (fun i=>((List.range i).map fun i:Nat=>Abz l t p ds i (A3 (ele l.body (i:Int))),Kn p i,(i:Int))) l.body.length (fun i hi=>?_) (by unfold Gf;exact Bt (by unfold ln;omega))
 have hs:=R4 hp (h.1.rng i hi)
 obtain⟨b,e1,e2⟩:=Ae6 h hi (c1:=Int.tmod (ele p.times (i:Int)) p.pace) (c2:=(ele l.body (i:Int)).op) (c3:=ele ds (i:Int)) (c4:=(ele l.body (i:Int)).ar) (c5:=(ele l.body (i:Int)).sp) (c6:=(ele l.body (i:Int)).pl) (c7:=(ele l.body (i:Int)).n)
 have e3:Int.tdiv (ele p.times (i:Int)) p.pace=Dp p i:=rfl
 unfold Gf
 simp only
 rw[Bu (by unfold ln;omega),Av (by omega) (by unfold ln;omega),Av (by omega) (by unfold ln;omega),Ao (by omega),Av (by omega) (by unfold ln;omega),Ao (by omega),e3,Aj (by omega) (by omega),Av (by omega) (by unfold ln;omega),Sf,bd_ret,e1,bd_ret,Out.on_go,e2]
 simp only
 rw[Ao (by rfl)]
 have e4:Ro [Int.tmod (ele p.times (i:Int)) p.pace,Dp p i,(ele l.body (i:Int)).op,ele ds (i:Int),(abV t p ds i (A3 (ele l.body (i:Int)))).1,(abV t p ds i (A3 (ele l.body (i:Int)))).2,(ele l.body (i:Int)).ar,(ele l.body (i:Int)).sp,(ele l.body (i:Int)).pl,(ele l.body (i:Int)).n]=Abz l t p ds i (A3 (ele l.body (i:Int))):=rfl
 rw[e4,Ao (AL80 (by simp;omega)),Av (by omega) (by unfold ln;simp)]
 have e5:ele [Int.tmod (ele p.times (i:Int)) p.pace,Dp p i,(ele l.body (i:Int)).op,ele ds (i:Int),(abV t p ds i (A3 (ele l.body (i:Int)))).1,(abV t p ds i (A3 (ele l.body (i:Int)))).2,(ele l.body (i:Int)).ar,(ele l.body (i:Int)).sp,(ele l.body (i:Int)).pl,(ele l.body (i:Int)).n] 1=Dp p i:=rfl
 rw[e5,Aj (by omega) (by omega),Aj (by omega) (by omega),rm_succ (g:=fun i:Nat=>Abz l t p ds i (A3 (ele l.body (i:Int))))]
 rfl
theorem Ap1 {l:Lp} (hf:l.Fine) (t:Tgt) (p:Pln) {ds:List Int} (hdl:ds.length≤9223372036854775807):L3 l t p ds=some (if tb (S6 l t p ds)=true then (Ad4 l t p ds,0) else (⟨0,0,[]⟩,2)):=by
 unfold L3
 rw[Agn hf,bd_ret]
 by_cases h1:LegalP l t p∧ds.length=l.body.length
 ·rw[Cc h1.1,show ((!true) || ((ln ds) != (ln l.body)))=false from by unfold ln;simp[h1.2],br_false]
  have hn:=h1.1.loop.2.2.1
  rcases Iz (f:=Ja t ds) (fun i=>(i:Int)) ds.length (Uk t ds) (fun _=>((Krn.mk 0 0 []),2)) (fun i hi _=>by
    unfold Ja Uk
    rw[Bu (by unfold ln;omega),Av (by omega) (by unfold ln;omega)]
    constructor
    ·intro h
     rw[show (decide (ele ds (i:Int)<0) || decide (ele ds (i:Int)≥t.regs))=false from by simp;omega,br_false,Aj (by omega) (by omega)]
     rfl
    ·intro h
     rw[show (decide (ele ds (i:Int)<0) || decide (ele ds (i:Int)≥t.regs))=true from by simp;omega,br_true]) (by unfold Ja;exact Bt (by unfold ln;omega)) with ⟨h2,e⟩ | ⟨i,h2,h3,_,e⟩
  ·have hE:S6 l t p ds:=⟨h1.1,h1.2,fun i hi=>h2 i (by omega)⟩
   rw[show (0:Int)=((0:Nat):Int) from rfl,e,bd_ret,Out.on_go]
   have:=Aht hE
   rw[show lp (Gf l t p ds) ([],((0:Nat):Int),((0:Nat):Int))=_ from this,bd_ret,Out.on_go,Cc hE]
   rfl
  ·rw[show (0:Int)=((0:Nat):Int) from rfl,e,bd_ret,Out.on_ret,B0 fun hE:S6 l t p ds=>h3 (hE.2.2 i (by omega))]
   rfl
 ·have hc:((!tb (LegalP l t p)) || ((ln ds) != (ln l.body)))=true:=by
   by_cases h:LegalP l t p
   ·have:¬ds.length=l.body.length:=fun e=>h1 ⟨h,e⟩
    rw[Cc h]
    unfold ln
    simp;omega
   ·rw[B0 h];rfl
  rw[hc,br_true,B0 fun hE:S6 l t p ds=>h1 ⟨hE.1,hE.2.1⟩]
  rfl
theorem Aav {α:Type}{v:List α}{i:Int}{x:α}:(upd v i x).length=v.length:=List.length_set
theorem Aa3 {l:Lp}{t:Tgt}{p:Pln}{ds:List Int}:(Ad4 l t p ds).ops.length=l.body.length:=by unfold Ad4;simp
noncomputable def Ij (a:Int) (x14:List Rf):(Int×Int)→Option (Stp (Int×Int) (Empty)):=fun (far5_4,x20_4) =>
 br (decide (x20_4<(ln x14))) (
 ck (IX x20_4 (ln x14)) <|
 br ((ele x14 x20_4).st==a) (
 ck (IR (x20_4+1)) <|
 some (.next ((max far5_4 ((ele x14 x20_4).bk)),(x20_4+1)))) (
 ck (IR (x20_4+1)) <|
 some (.next (far5_4,(x20_4+1))))) (
 some (.brk (far5_4,x20_4)))
noncomputable def Ik (l:Lp) (a:Int):(Int×Int)→Option (Stp (Int×Int) (Empty)):=fun (far5_3,x13_3) =>
 br (decide (x13_3<(ln l.body))) (
 ck (IX x13_3 (ln l.body)) <|
 bd (Dh (Stm.mk ((ele l.body x13_3).op) ((ele l.body x13_3).a) ((ele l.body x13_3).b) ((ele l.body x13_3).ar) ((ele l.body x13_3).sp) ((ele l.body x13_3).pl) ((ele l.body x13_3).n))) fun x14 =>
 bd (lp (Ij a x14) (far5_3,0)) fun o18=>o18.on (fun (far5_4,x20_4) =>
 ck (IR (x13_3+1)) <|
 some (.next (far5_4,(x13_3+1)))) (fun r=>r.elim)) (
 some (.brk (far5_3,x13_3)))
noncomputable def Lj (l:Lp) (a:Int):Option (Int) :=
 bd (lp (Ik l a) (0,0)) fun o2=>o2.on (fun (far5_3,x13_3) =>
 some far5_3) (fun r=>r.elim)
noncomputable def Fi (s:List Int) (v:Int):Int→Option (Stp (Int) (Int)):=fun x8_1 =>
 br (decide (x8_1<(ln s))) (
 ck (IX x8_1 (ln s)) <|
 br (v==(ele s x8_1)) (
 some (.ret x8_1)) (
 ck (IR (x8_1+1)) <|
 some (.next (x8_1+1)))) (
 some (.brk x8_1))
noncomputable def J1 (s:List Int) (v:Int):Option (Int) :=
 bd (lp (Fi s v) 0) fun o1=>o1.on (fun x8_1 =>
 some (-1)) (fun r=>some r)
noncomputable def F0 (s:List Int) (v:Int):Option (Bool) :=
 bd (J1 s v) fun x1 =>
 some (decide (x1≥0))
noncomputable def J6 (y_Pace:Int) (y_Time:List Int) (a x16_4:Int) (x14:List Rf):((List Use)×Int)→Option (Stp ((List Use)×Int) (Empty)):=fun (v1_5,x24_5) =>
 br (decide (x24_5<(ln x14))) (
 ck (IX x24_5 (ln x14)) <|
 br ((ele x14 x24_5).st==a) (
 ck (IX x16_4 (ln y_Time)) <|
 ck (IR ((ele x14 x24_5).bk * y_Pace)) <|
 ck (IR ((ele y_Time x16_4)+((ele x14 x24_5).bk * y_Pace))) <|
 ck (AL (v1_5++[(Use.mk ((ele y_Time x16_4)+((ele x14 x24_5).bk * y_Pace)) (decide ((ele x14 x24_5).bk>0)))]).length 16) <|
 ck (IR (x24_5+1)) <|
 some (.next ((v1_5++[(Use.mk ((ele y_Time x16_4)+((ele x14 x24_5).bk * y_Pace)) (decide ((ele x14 x24_5).bk>0)))]),(x24_5+1)))) (
 ck (IR (x24_5+1)) <|
 some (.next (v1_5,(x24_5+1))))) (
 some (.brk (v1_5,x24_5)))
noncomputable def Ln (y_Loop_Body:List Stm) (y_Pace:Int) (y_Time:List Int) (a:Int):((List Use)×Int)→Option (Stp ((List Use)×Int) (Empty)):=fun (v1_4,x16_4) =>
 br (decide (x16_4<(ln y_Loop_Body))) (
 ck (IX x16_4 (ln y_Loop_Body)) <|
 bd (Dh (Stm.mk ((ele y_Loop_Body x16_4).op) ((ele y_Loop_Body x16_4).a) ((ele y_Loop_Body x16_4).b) ((ele y_Loop_Body x16_4).ar) ((ele y_Loop_Body x16_4).sp) ((ele y_Loop_Body x16_4).pl) ((ele y_Loop_Body x16_4).n))) fun x14 =>
 bd (lp (J6 y_Pace y_Time a x16_4 x14) (v1_4,0)) fun o18=>o18.on (fun (v1_5,x24_5) =>
 ck (IR (x16_4+1)) <|
 some (.next (v1_5,(x16_4+1)))) (fun r=>r.elim)) (
 some (.brk (v1_4,x16_4)))
noncomputable def Oq (y_Loop_Body:List Stm) (y_Pace y_Regs:Int) (y_Time:List Int) (a:Int):Option (List Use) :=
 bd (lp (Ln y_Loop_Body y_Pace y_Time a) ([],0)) fun o2=>o2.on (fun (v1_4,x16_4) =>
 some v1_4) (fun r=>r.elim)
noncomputable def Kb (y_Pace:Int) (y_Ready:List Int) (a m_ j:Int) (uses:List Use):Int→Option (Stp (Int) (Bool)):=fun x30_1 =>
 br (decide (x30_1<(ln uses))) (
 ck (IX x30_1 (ln uses)) <|
 ck (IX a (ln y_Ready)) <|
 br (((decide (((ele y_Ready m_)+(j * y_Pace))≥(ele y_Ready a)))&&(decide (((ele y_Ready m_)+(j * y_Pace))≤(ele uses x30_1).til))) || (((ele uses x30_1).later&&(decide (j>0)))&&(decide (((ele y_Ready m_)+(j * y_Pace))≤(ele uses x30_1).til)))) (
 some (.ret true)) (
 ck (IR (x30_1+1)) <|
 some (.next (x30_1+1)))) (
 some (.brk x30_1))
noncomputable def Qj (y_Loop_Outs:List Int) (y_Pace y_Regs:Int) (y_Ready:List Int) (a m_ j:Int) (uses:List Use):Option (Bool) :=
 ck (IX m_ (ln y_Ready)) <|
 ck (IR (j * y_Pace)) <|
 ck (IR ((ele y_Ready m_)+(j * y_Pace))) <|
 bd (lp (Kb y_Pace y_Ready a m_ j uses) 0) fun o9=>o9.on (fun x30_1 =>
 ck ((decide (j≤0))=true→IX a (ln y_Ready)) <|
 bdG ((decide (j≤0))&&(decide (((ele y_Ready m_)+(j * y_Pace))≥(ele y_Ready a)))) (F0 y_Loop_Outs a) fun x18 =>
 some (((decide (j≤0))&&(decide (((ele y_Ready m_)+(j * y_Pace))≥(ele y_Ready a))))&&x18)) (fun r=>some r)
noncomputable def Kh (y_Loop_Outs:List Int) (y_Pace y_Regs:Int) (y_Ready:List Int) (a m_:Int) (x1:List Use):Int→Option (Stp (Int) (Bool)):=fun j10_1 =>
 br (decide (j10_1≤((Int.tdiv 4000 y_Pace)+1))) (
 bdG ((m_ != a) || (j10_1 != 0)) (Qj y_Loop_Outs y_Pace y_Regs y_Ready a m_ j10_1 x1) fun x44 =>
 br (((m_ != a) || (j10_1 != 0))&&x44) (
 some (.ret false)) (
 ck (IR (j10_1+y_Regs)) <|
 some (.next (j10_1+y_Regs)))) (
 some (.brk j10_1))
noncomputable def Ie (y_Loop_Body:List Stm) (y_Loop_Outs:List Int) (y_Pace y_Regs:Int) (y_Time y_Ready y_Places:List Int) (a m_:Int):Option (Bool) :=
 bd (Oq y_Loop_Body y_Pace y_Regs y_Time a) fun x1 =>
 ck (IX a (ln y_Places)) <|
 ck (IX m_ (ln y_Places)) <|
 ck (IR ((ele y_Places a) - (ele y_Places m_))) <|
 ck (y_Regs≠0) <|
 ck (IR ((Int.tmod ((ele y_Places a) - (ele y_Places m_)) y_Regs)+y_Regs)) <|
 ck (y_Regs≠0) <|
 ck (y_Pace≠0) <|
 ck (IR (Int.tdiv 4000 y_Pace)) <|
 ck (IR ((Int.tdiv 4000 y_Pace)+1)) <|
 ck (y_Regs≠0) <|
 ck (IR (Int.tdiv ((Int.tdiv 4000 y_Pace)+1) y_Regs)) <|
 ck (IR ((Int.tdiv ((Int.tdiv 4000 y_Pace)+1) y_Regs)+2)) <|
 ck (IR (((Int.tdiv ((Int.tdiv 4000 y_Pace)+1) y_Regs)+2) * y_Regs)) <|
 ck (IR ((Int.tmod ((Int.tmod ((ele y_Places a) - (ele y_Places m_)) y_Regs)+y_Regs) y_Regs) - (((Int.tdiv ((Int.tdiv 4000 y_Pace)+1) y_Regs)+2) * y_Regs))) <|
 bd (lp (Kh y_Loop_Outs y_Pace y_Regs y_Ready a m_ x1) ((Int.tmod ((Int.tmod ((ele y_Places a) - (ele y_Places m_)) y_Regs)+y_Regs) y_Regs) - (((Int.tdiv ((Int.tdiv 4000 y_Pace)+1) y_Regs)+2) * y_Regs))) fun o37=>o37.on (fun j10_1 =>
 some true) (fun r=>some r)
noncomputable def Gi (y_Regs:Int) (y_Places l:List Int) (x13_3 x13:Int):((List (Int×Bool))×Int)→Option (Stp ((List (Int×Bool))×Int) (Bool)):=fun (m1n_4,x23_4) =>
 br (decide (x23_4<x13)) (
 ck (IX (ele l x13_3) (ln y_Places)) <|
 ck (IR ((ele y_Places (ele l x13_3)) - x23_4)) <|
 ck (IR (((ele y_Places (ele l x13_3)) - x23_4) - 1)) <|
 ck (y_Regs≠0) <|
 ck (IR ((Int.tmod (((ele y_Places (ele l x13_3)) - x23_4) - 1) y_Regs)+y_Regs)) <|
 ck (y_Regs≠0) <|
 br (Dm m1n_4 (Int.tmod ((Int.tmod (((ele y_Places (ele l x13_3)) - x23_4) - 1) y_Regs)+y_Regs) y_Regs) false) (
 some (.ret false)) (
 ck (IR (x23_4+1)) <|
 some (.next ((Es m1n_4 (Int.tmod ((Int.tmod (((ele y_Places (ele l x13_3)) - x23_4) - 1) y_Regs)+y_Regs) y_Regs) true),(x23_4+1))))) (
 some (.brk (m1n_4,x23_4)))
noncomputable def Je (y_Loop_Logs:List Int) (y_Loop_Body:List Stm) (y_Loop_Outs:List Int) (y_Regs:Int) (y_Places l:List Int):((List (Int×Bool))×Int)→Option (Stp ((List (Int×Bool))×Int) (Bool)):=fun (m1n_3,x13_3) =>
 br (decide (x13_3<(ln l))) (
 ck (IX x13_3 (ln l)) <|
 bd (Lj (Lp.mk y_Loop_Logs y_Loop_Body y_Loop_Outs) (ele l x13_3)) fun x13 =>
 bd (lp (Gi y_Regs y_Places l x13_3 x13) (m1n_3,0)) fun o16=>o16.on (fun (m1n_4,x23_4) =>
 ck (IR (x13_3+1)) <|
 some (.next (m1n_4,(x13_3+1)))) (fun r=>some (.ret r))) (
 some (.brk (m1n_3,x13_3)))
noncomputable def Iq (y_Loop_Logs:List Int) (y_Loop_Body:List Stm) (y_Loop_Outs:List Int) (y_Pace y_Regs:Int) (y_Places l:List Int):Option (Bool) :=
 bd (lp (Je y_Loop_Logs y_Loop_Body y_Loop_Outs y_Regs y_Places l) (([]:List (Int×Bool)),0)) fun o2=>o2.on (fun (m1n_3,x13_3) =>
 some true) (fun r=>some r)
structure LayD where
 (logs:List Int)
 (body:List Stm)
 (outs:List Int)
 (pace regs:Int)
 (time ready places:List Int)
structure LayD.Ok (y:LayD):Prop where
 n:1≤y.body.length∧y.body.length≤16
 lt:y.time.length=y.body.length
 lr:y.ready.length=y.body.length
 lp:y.places.length=y.body.length
 lo:y.outs.length≤100000
 pace:1≤y.pace∧y.pace≤200
 regs:1≤y.regs∧y.regs≤128
 tm:∀ i:Nat,i<y.body.length→0≤ele y.time (i:Int)∧ele y.time (i:Int)≤1000
 rd:∀ i:Nat,i<y.body.length→0≤ele y.ready (i:Int)∧ele y.ready (i:Int)≤1006
 pl:∀ i:Nat,i<y.body.length→-100000≤ele y.places (i:Int)∧ele y.places (i:Int)≤100000
 us:∀ i:Nat,i<y.body.length→∀ r∈A3 (ele y.body (i:Int)),0≤r.st∧r.st<y.body.length∧0≤r.bk∧r.bk≤3
def Z8 (a:Int):List Rf→Int→Int
 | [],f=>f
 | r::us,f=>Z8 a us (if r.st=a then max f r.bk else f)
def Ya (body:List Stm) (a:Int):Nat→Int
 | 0=>0
 | k+1=>Z8 a (A3 (ele body (k:Int))) (Ya body a k)
def Lv (body:List Stm) (a:Int):Int:=Ya body a body.length
theorem Ada (a:Int):∀ (u v:List Rf) (f:Int),Z8 a (u++v) f=Z8 a v (Z8 a u f)
 | [],_,_=>rfl
 | r::u,v,f=>Ada a u v _
theorem Abb (a:Int):∀ (u:List Rf) (f:Int),f≤Z8 a u f∧∀ r∈u,r.st=a→r.bk≤Z8 a u f
 | [],f=>⟨Int.le_refl _,fun r h=>by cases h⟩
 | r::u,f=>by
  have h:=Abb a u (if r.st=a then max f r.bk else f)
  refine⟨Int.le_trans ?_ h.1,fun x hx hs=>?_⟩
  ·split <;> omega
  ·rcases List.mem_cons.1 hx with rfl | hx
   ·refine Int.le_trans ?_ h.1
    rw[if_pos hs];omega
   ·exact h.2 x hx hs
theorem Af5 (a:Int) {B:Int}:∀ (u:List Rf) (f:Int),f≤B→(∀ r∈u,r.bk≤B)→Z8 a u f≤B
 | [],_,h,_=>h
 | r::u,f,h,hu=>Af5 a u _ (by have:=hu r (by simp);split <;> omega) fun x hx=>hu x (by simp[hx])
theorem Af7 {body:List Stm} (hu:∀ i:Nat,i<body.length→∀ r∈A3 (ele body (i:Int)),0≤r.bk∧r.bk≤3) (a:Int):∀ k,k≤body.length→0≤Ya body a k∧Ya body a k≤3
 | 0,_=>by show 0≤(0:Int)∧(0:Int)≤3;omega
 | k+1,h=>by
  have ih:=Af7 hu a k (by omega)
  have h1:=Abb a (A3 (ele body (k:Int))) (Ya body a k)
  exact⟨Int.le_trans ih.1 h1.1,Af5 a _ _ ih.2 fun r hr=>(hu k (by omega) r hr).2⟩
theorem Af6 {body:List Stm} (a:Int):∀ k i:Nat,i<k→∀ r∈A3 (ele body (i:Int)),r.st=a→r.bk≤Ya body a k
 | k+1,i,h,r,hr,hs=>by
  have h1:=Abb a (A3 (ele body (k:Int))) (Ya body a k)
  by_cases e:i=k
  ·subst e;exact h1.2 r hr hs
  ·exact Int.le_trans (Af6 a k i (by omega) r hr hs) h1.1
theorem An8 {l:Lp} (hn:l.body.length≤16) (hu:∀ i:Nat,i<l.body.length→∀ r∈A3 (ele l.body (i:Int)),0≤r.bk∧r.bk≤3) (a:Int):Lj l a=some (Lv l.body a):=by
 have X:=Ew (f:=Ik l a) (ρ:=Empty) (fun k=>(Ya l.body a k,(k:Int))) l.body.length (fun k hk=>by
  have h2:=J7 (ele l.body (k:Int))
  have Y:=Ew (f:=Ij a (A3 (ele l.body (k:Int)))) (ρ:=Empty) (fun j=>(Z8 a ((A3 (ele l.body (k:Int))).take j) (Ya l.body a k),(j:Int))) (A3 (ele l.body (k:Int))).length (fun j hj=>by
   unfold Ij
   simp only
   rw[Bu (by unfold ln;omega),Av (by omega) (by unfold ln;omega),Eu hj,Ada]
   by_cases e:(ele (A3 (ele l.body (k:Int))) (j:Int)).st=a
   ·rw[show ((ele (A3 (ele l.body (k:Int))) (j:Int)).st==a)=true from by simp[e],br_true,Aj (by omega) (by omega)]
    show _=some (Stp.next (if _ then _ else _,_))
    rw[if_pos e];rfl
   ·rw[show ((ele (A3 (ele l.body (k:Int))) (j:Int)).st==a)=false from by simp[e],br_false,Aj (by omega) (by omega)]
    show _=some (Stp.next (if _ then _ else _,_))
    rw[if_neg e];rfl) (by unfold Ij;exact Bt (by unfold ln;omega))
  rw[List.take_length] at Y
  unfold Ik
  simp only
  rw[Bu (by unfold ln;omega),Av (by omega) (by unfold ln;omega),show Dh (Stm.mk ((ele l.body (k:Int)).op) ((ele l.body (k:Int)).a) ((ele l.body (k:Int)).b) ((ele l.body (k:Int)).ar) ((ele l.body (k:Int)).sp) ((ele l.body (k:Int)).pl) ((ele l.body (k:Int)).n))=some (A3 (ele l.body (k:Int))) from Sf _,bd_ret,
   show lp (Ij a (A3 (ele l.body (k:Int)))) (Ya l.body a k,0)=_ from Y,bd_ret,Out.on_go,Aj (by omega) (by omega)]
  rfl) (by unfold Ik;exact Bt (by unfold ln;omega))
 unfold Lj
 rw[show lp (Ik l a) (0,0)=_ from X,bd_ret,Out.on_go]
 rfl
def Acd (y:LayD) (a:Int) (k:Nat) (r:Rf) (x:Use):Prop:=r.st=a∧x=⟨ele y.time (k:Int)+r.bk * y.pace,decide (r.bk>0)⟩
theorem Al2 {y:LayD} (hy:y.Ok) (a:Int) {k:Nat} (hk:k<y.body.length) {g0:List Use} (hg:g0.length≤1000):∃ g,lp (J6 y.pace y.time a k (A3 (ele y.body (k:Int)))) (g0,0)=some (.go (g,((A3 (ele y.body (k:Int))).length:Int)))∧((∀ x,x∈g↔x∈g0∨∃ r∈A3 (ele y.body (k:Int)),Acd y a k r x)∧g.length≤g0.length+2):=by
 have h2:=J7 (ele y.body (k:Int))
 have X:=Kl (f:=J6 y.pace y.time a k (A3 (ele y.body (k:Int)))) (ρ:=Empty) (n:=(A3 (ele y.body (k:Int))).length) (fun j g=>(∀ x,x∈g↔x∈g0∨∃ r∈(A3 (ele y.body (k:Int))).take j,Acd y a k r x)∧g.length≤g0.length+j) (fun j g hj hg2=>by
  obtain⟨q1,q2⟩:=hg2
  have hu:=hy.us k hk _ (Cv hj)
  have ht:=hy.tm k hk
  have hpc:=hy.pace
  have m1:=Ms (a:=(ele (A3 (ele y.body (k:Int))) (j:Int)).bk) (A:=3) (b:=y.pace) (B:=200) (by omega) (by omega) (by omega) (by omega)
  have hl:=hy.lt
  unfold J6
  simp only
  rw[Bu (by unfold ln;omega),Av (by omega) (by unfold ln;omega),Eu hj]
  by_cases e:(ele (A3 (ele y.body (k:Int))) (j:Int)).st=a
  ·rw[show ((ele (A3 (ele y.body (k:Int))) (j:Int)).st==a)=true from by simp[e],br_true,Av (by omega) (by unfold ln;omega),Aj (by omega) (by omega),Aj (by omega) (by omega),Ao ⟨by show _≤9223372036854775807;simp;omega,by simp;omega⟩,Aj (by omega) (by omega)]
   refine⟨_,rfl,fun x=>?_,by simp;omega⟩
   rw[List.mem_append,List.mem_singleton,q1]
   constructor
   ·rintro ((h | ⟨r,h,h'⟩) | h)
    ·exact .inl h
    ·exact .inr ⟨r,by simp[h],h'⟩
    ·exact .inr ⟨_,by simp,e,h⟩
   ·rintro (h | ⟨r,h,h'⟩)
    ·exact .inl (.inl h)
    ·rcases List.mem_append.1 h with h | h
     ·exact .inl (.inr ⟨r,h,h'⟩)
     ·rw[List.mem_singleton] at h
      subst h
      exact .inr h'.2
  ·rw[show ((ele (A3 (ele y.body (k:Int))) (j:Int)).st==a)=false from by simp[e],br_false,Aj (by omega) (by omega)]
   refine⟨_,rfl,fun x=>?_,by omega⟩
   rw[q1]
   constructor
   ·rintro (h | ⟨r,h,h'⟩)
    ·exact .inl h
    ·exact .inr ⟨r,by simp[h],h'⟩
   ·rintro (h | ⟨r,h,h'⟩)
    ·exact .inl h
    ·rcases List.mem_append.1 h with h | h
     ·exact .inr ⟨r,h,h'⟩
     ·rw[List.mem_singleton] at h
      subst h
      exact absurd h'.1 e) (fun g=>by unfold J6;exact Bt (by unfold ln;omega)) g0 ⟨fun x=>⟨.inl,fun h=>by
       rcases h with h | ⟨r,h,_⟩
       ·exact h
       ·simp at h⟩,by omega⟩
 obtain⟨g,e,q1,q2⟩:=X
 rw[List.take_length] at q1
 exact⟨g,e,q1,by omega⟩
theorem Aoz {y:LayD} (hy:y.Ok) (a:Int):∃ us,Oq y.body y.pace y.regs y.time a=some us∧(∀ x,x∈us↔∃ k,k<y.body.length∧∃ r∈A3 (ele y.body (k:Int)),Acd y a k r x)∧us.length≤32:=by
 have hn:=hy.n
 have X:=Kl (f:=Ln y.body y.pace y.time a) (ρ:=Empty) (n:=y.body.length) (fun i g=>(∀ x,x∈g↔∃ k,k<i∧∃ r∈A3 (ele y.body (k:Int)),Acd y a k r x)∧g.length≤2 * i) (fun i g hi hg=>by
  obtain⟨q1,q2⟩:=hg
  obtain⟨g',e1,e2,e3⟩:=Al2 hy a hi (g0:=g) (by omega)
  unfold Ln
  simp only
  rw[Bu (by unfold ln;omega),Av (by omega) (by unfold ln;omega),show Dh (Stm.mk ((ele y.body (i:Int)).op) ((ele y.body (i:Int)).a) ((ele y.body (i:Int)).b) ((ele y.body (i:Int)).ar) ((ele y.body (i:Int)).sp) ((ele y.body (i:Int)).pl) ((ele y.body (i:Int)).n))=some (A3 (ele y.body (i:Int))) from Sf _,bd_ret,e1,bd_ret,Out.on_go,Aj (by omega) (by omega)]
  refine⟨_,rfl,fun x=>?_,by show g'.length≤_;omega⟩
  rw[e2,q1]
  constructor
  ·rintro (⟨k,h1,h2⟩ | h)
   ·exact⟨k,by omega,h2⟩
   ·exact⟨i,by omega,h⟩
  ·rintro ⟨k,h1,h2⟩
   by_cases e:k=i
   ·subst e;exact .inr h2
   ·exact .inl ⟨k,by omega,h2⟩) (fun g=>by unfold Ln;exact Bt (by unfold ln;omega)) [] ⟨fun x=>⟨fun h=>(by cases h),fun ⟨k,h,_⟩=>absurd h (Nat.not_lt_zero _)⟩,by simp⟩
 obtain⟨g,e,q1,q2⟩:=X
 unfold Oq
 rw[e,bd_ret,Out.on_go]
 exact⟨g,rfl,q1,by omega⟩
structure LookP (y:LayD) (a m j:Int) (k:Nat) (r:Rf):Prop where
 kn:k<y.body.length
 mem:r∈A3 (ele y.body (k:Int))
 st:r.st=a
 near:(ele y.ready a≤ele y.ready m+j * y.pace∧ele y.ready m+j * y.pace≤ele y.time (k:Int)+r.bk * y.pace)∨(0<r.bk∧0<j∧ele y.ready m+j * y.pace≤ele y.time (k:Int)+r.bk * y.pace)
def OutP (y:LayD) (a m j:Int):Prop:=j≤0∧ele y.ready a≤ele y.ready m+j * y.pace∧a∈y.outs
def Aaa (y:LayD) (a m j:Int):Prop:=(∃ k r,LookP y a m j k r)∨OutP y a m j
def Jm (y:LayD) (a m:Int):Prop:=∀ j:Int,(m≠a∨j≠0)→(ele y.places m+j - ele y.places a) % y.regs=0→¬Aaa y a m j
theorem Ae9 (s:List Int) (hs:s.length≤100000) (v:Int):F0 s v=some (tb (v∈s)):=by
 unfold F0 J1
 rcases Iz (f:=Fi s v) (fun i=>(i:Int)) s.length (fun i=>¬(v=ele s (i:Int))) (fun i=>(i:Int)) (fun i hi _=>by
   unfold Fi
   rw[Bu (by unfold ln;omega),Av (by omega) (by unfold ln;omega)]
   exact⟨fun h=>by rw[show (v==ele s (i:Int))=false from by simp[h],br_false,Aj (by omega) (by omega)];rfl,fun h=>by rw[show (v==ele s (i:Int))=true from by simpa using h,br_true]⟩) (by unfold Fi;exact Bt (by unfold ln;omega)) with ⟨h1,e⟩ | ⟨i,h1,h2,_,e⟩
 ·rw[show (0:Int)=((0:Nat):Int) from rfl,e,bd_ret,Out.on_go,bd_ret,B0]
  ·rfl
  ·intro h
   obtain⟨i,hi,he⟩:=Ni h
   exact h1 i hi he.symm
 ·rw[show (0:Int)=((0:Nat):Int) from rfl,e,bd_ret,Out.on_ret,bd_ret,Cc (by rw[Classical.not_not.1 h2];exact Cv h1),decide_eq_true (by omega)]
theorem bad_s {y:LayD} (hy:y.Ok) {a m:Nat} (ha:a<y.body.length) (hm:m<y.body.length) {j:Int} (h1:-10000≤j) (h2:j≤10000) {us:List Use} (hus:∀ x,x∈us↔∃ k,k<y.body.length∧∃ r∈A3 (ele y.body (k:Int)),Acd y a k r x) (hul:us.length≤32) :
  Qj y.outs y.pace y.regs y.ready a m j us=some (tb (Aaa y a m j)):=by
 have hpc:=hy.pace
 have hlr:=hy.lr
 have r1:=hy.rd a ha;have r2:=hy.rd m hm
 have m1:=Ms (a:=j) (A:=10000) (b:=y.pace) (B:=200) (by omega) (by omega) (by omega) (by omega)
 unfold Qj
 rw[Av (by omega) (by unfold ln;omega),Aj (by omega) (by omega),Aj (by omega) (by omega)]
 rcases Iz (f:=Kb y.pace y.ready a m j us) (fun i=>(i:Int)) us.length (fun i=>¬((ele y.ready a≤ele y.ready m+j * y.pace∧ele y.ready m+j * y.pace≤(ele us (i:Int)).til)∨((ele us (i:Int)).later=true∧0<j∧ele y.ready m+j * y.pace≤(ele us (i:Int)).til))) (fun i=>true) (fun i hi _=>by
   unfold Kb
   rw[Bu (by unfold ln;omega),Av (by omega) (by unfold ln;omega),Av (by omega) (by unfold ln;omega)]
   have hb:(((decide (((ele y.ready m)+(j * y.pace))≥(ele y.ready a)))&&(decide (((ele y.ready m)+(j * y.pace))≤(ele us (i:Int)).til))) || (((ele us (i:Int)).later&&(decide (j>0)))&&(decide (((ele y.ready m)+(j * y.pace))≤(ele us (i:Int)).til))))=tb ((ele y.ready a≤ele y.ready m+j * y.pace∧ele y.ready m+j * y.pace≤(ele us (i:Int)).til)∨((ele us (i:Int)).later=true∧0<j∧ele y.ready m+j * y.pace≤(ele us (i:Int)).til)):=H7 (by simp[and_assoc])
   rw[hb]
   exact⟨fun h=>by rw[B0 h,br_false,Aj (by omega) (by omega)];rfl,fun h=>by rw[Cc (Classical.not_not.1 h),br_true]⟩) (by unfold Kb;exact Bt (by unfold ln;omega)) with ⟨q1,e⟩ | ⟨i,q1,q2,_,e⟩
 ·rw[show lp (Kb y.pace y.ready a m j us) 0=_ from e,bd_ret,Out.on_go,Fb (fun _=>⟨by omega,by unfold ln;omega⟩),Ae9 _ hy.lo,Ka]
  congr 1
  refine H7 ?_
  have hno:¬∃ k r,LookP y a m j k r:=by
   rintro ⟨k,r,hk,hr,hs,hn⟩
   obtain⟨i,hi,he⟩:=Ni ((hus _).2 ⟨k,hk,r,hr,hs,rfl⟩)
   refine q1 i hi ?_
   rw[he]
   simpa using hn
  unfold Aaa OutP
  constructor
  ·intro h
   by_cases c:j≤0 <;> by_cases d:ele y.ready a≤ele y.ready m+j * y.pace <;> by_cases f:(a:Int)∈y.outs <;> simp[c,d,f,Cc,B0] at h ⊢
  ·rintro (h | ⟨c,d,f⟩)
   ·exact absurd h hno
   ·have d':ele y.ready m+j * y.pace≥ele y.ready a:=d
    rw[Cc f,decide_eq_true c,decide_eq_true d']
    rfl
 ·rw[show lp (Kb y.pace y.ready a m j us) 0=_ from e,bd_ret,Out.on_ret,Cc]
  obtain⟨k,hk,r,hr,hs,he⟩:=(hus _).1 (Cv q1)
  have q3:=Classical.not_not.1 q2
  rw[he] at q3
  exact .inl ⟨k,r,hk,hr,hs,by simpa using q3⟩
def Wd (y:LayD):Int:=4000 / y.pace+1
theorem Alk {y:LayD} (hy:y.Ok) {a m:Nat} (ha:a<y.body.length) (hm:m<y.body.length) {j:Int} (h:Aaa y a m j):-(4000 / y.pace) - 2≤j∧j≤Wd y∧-1006≤j∧j≤1003∧-1006≤j * y.pace:=by
 have hp:=hy.pace
 have r1:=hy.rd a ha;have r2:=hy.rd m hm
 have hlow:-1006≤j * y.pace→-(4000 / y.pace) - 2≤j:=fun hl=>by
  have h1:-j≤4000 / y.pace:=Int.le_ediv_of_mul_le (by omega) (by rw[Int.neg_mul];omega)
  omega
 have hup:j * y.pace≤1000+3 * y.pace→j≤Wd y∧j≤1003:=fun hu=>by
  have h1:j - 3≤1000 / y.pace:=Int.le_ediv_of_mul_le (by omega) (by rw[Int.sub_mul];omega)
  have h2:1000 / y.pace+2≤4000 / y.pace:=Int.le_ediv_of_mul_le (by omega) (by
   have:=Int.ediv_mul_le 1000 (show y.pace≠0 by omega)
   rw[Int.add_mul];omega)
  have h3:1000 / y.pace≤1000:=Int.ediv_le_self _ (by omega)
  unfold Wd
  omega
 have hj:∀ hl:-1006≤j * y.pace,-1006≤j:=fun hl=>by
  by_cases c:j<0
  ·have:=Int.mul_le_mul_of_nonneg_left (show (1:Int)≤y.pace by omega) (show 0≤-j by omega)
   rw[Int.neg_mul j y.pace] at this
   omega
  ·omega
 have hpos:0<j→0≤j * y.pace:=fun h0=>Int.mul_nonneg (by omega) (by omega)
 have hnp:j≤0→j * y.pace≤0:=fun h0=>by
  have:=Int.mul_le_mul_of_nonneg_right h0 (show 0≤y.pace by omega)
  omega
 rcases h with ⟨k,r,q⟩ | ⟨q1,q2,q3⟩
 ·have hk:=hy.tm k q.kn
  have hu:=hy.us k q.kn r q.mem
  have m1:=Int.mul_le_mul_of_nonneg_right (show r.bk≤3 by omega) (show 0≤y.pace by omega)
  have hl:-1006≤j * y.pace:=by
   rcases q.near with ⟨n1,n2⟩ | ⟨n1,n2,n3⟩
   ·omega
   ·have:=hpos n2;omega
  have hh:j * y.pace≤1000+3 * y.pace:=by
   rcases q.near with ⟨n1,n2⟩ | ⟨n1,n2,n3⟩ <;> omega
  have:=hup hh
  exact⟨hlow hl,this.1,hj hl,this.2,hl⟩
 ·have hl:-1006≤j * y.pace:=by omega
  have:=hup (by have:=hnp q1;omega)
  exact⟨hlow hl,this.1,hj hl,this.2,hl⟩
theorem tm2 {d R:Int} (hR:1≤R) (hR2:R≤128):Int.tmod (Int.tmod d R+R) R=d % R:=by
 have ht:=Jp d (show 0<R by omega)
 rw[Int.tmod_eq_emod_of_nonneg (by omega),Int.add_emod_right]
 have h:=Int.tmod_add_mul_tdiv d R
 rw[show Int.tmod d R=d - R * Int.tdiv d R from by omega,Int.sub_mul_emod_self_left]
theorem Abh {y:LayD} (hy:y.Ok) {a m:Nat} (ha:a<y.body.length) (hm:m<y.body.length):Ie y.body y.outs y.pace y.regs y.time y.ready y.places a m=some (tb (Jm y a m)):=by
 obtain⟨us,u1,u2,u3⟩:=Aoz hy a
 have hp:=hy.pace;have hR:=hy.regs
 have p1:=hy.pl a ha;have p2:=hy.pl m hm
 have hlp:=hy.lp
 have ht:=Jp (ele y.places (a:Int) - ele y.places (m:Int)) (show 0<y.regs by omega)
 have hf:Int.tdiv 4000 y.pace=4000 / y.pace:=Int.tdiv_eq_ediv_of_nonneg (by omega)
 have hf0:0≤4000 / y.pace:=Int.ediv_nonneg (by omega) (by omega)
 have hf1:4000 / y.pace≤4000:=Int.ediv_le_self _ (by omega)
 have hq:Int.tdiv (4000 / y.pace+1) y.regs=(4000 / y.pace+1) / y.regs:=Int.tdiv_eq_ediv_of_nonneg (by omega)
 have hq0:0≤(4000 / y.pace+1) / y.regs:=Int.ediv_nonneg (by omega) (by omega)
 have hq1:(4000 / y.pace+1) / y.regs≤4001:=Int.le_trans (Int.ediv_le_self _ (by omega)) (by omega)
 have hq2:=Int.ediv_mul_le (4000 / y.pace+1) (show y.regs≠0 by omega)
 have hq3:=Int.lt_ediv_add_one_mul_self (4000 / y.pace+1) (show 0<y.regs by omega)
 have hd0:=Int.emod_nonneg (ele y.places (a:Int) - ele y.places (m:Int)) (show y.regs≠0 by omega)
 have hd1:=Int.emod_lt_of_pos (ele y.places (a:Int) - ele y.places (m:Int)) (show 0<y.regs by omega)
 unfold Ie
 rw[u1,bd_ret,Av (by omega) (by unfold ln;omega),Av (by omega) (by unfold ln;omega),Aj (by omega) (by omega),Ao (by omega),Aj (by omega) (by omega),Ao (by omega),Ao (by omega),hf,Aj (by omega) (by omega),Aj (by omega) (by omega),Ao (by omega),hq,Aj (by omega) (by omega),Aj (by omega) (by omega)]
 rw[Int.add_mul] at hq3
 have e2:((4000 / y.pace+1) / y.regs+2) * y.regs=(4000 / y.pace+1) / y.regs * y.regs+2 * y.regs:=Int.add_mul ..
 rw[tm2 hR.1 hR.2,e2,Aj (by omega) (by omega),Aj (by omega) (by omega)]
 generalize hlo:(ele y.places (a:Int) - ele y.places (m:Int)) % y.regs - ((4000 / y.pace+1) / y.regs * y.regs+2 * y.regs)=lo
 have hfar:Wd y=4000 / y.pace+1:=rfl
 have hlob:lo < -(4000 / y.pace) - 1∧-10000≤lo:=by omega
 have hN0:0≤(Wd y - lo) / y.regs:=Int.ediv_nonneg (by omega) (by omega)
 obtain⟨N,hN⟩:=Int.eq_ofNat_of_zero_le (show 0≤(Wd y - lo) / y.regs+1 by omega)
 have hN1:=Int.ediv_mul_le (Wd y - lo) (show y.regs≠0 by omega)
 have hN2:=Int.lt_ediv_add_one_mul_self (Wd y - lo) (show 0<y.regs by omega)
 rw[hN] at hN2
 have hst:∀ i:Nat,i<N→lo+(i:Int) * y.regs≤Wd y∧lo≤lo+(i:Int) * y.regs:=fun i hi=>by
  have h1:=Int.mul_le_mul_of_nonneg_right (show (i:Int)≤(Wd y - lo) / y.regs by omega) (show 0≤y.regs by omega)
  have h2:=Int.mul_nonneg (show 0≤(i:Int) by omega) (show 0≤y.regs by omega)
  omega
 have hcong:∀ i:Int,(ele y.places (m:Int)+(lo+i * y.regs) - ele y.places (a:Int)) % y.regs=0:=fun i=>by
  have h1:=Int.emod_add_mul_ediv (ele y.places (a:Int) - ele y.places (m:Int)) y.regs
  have e:ele y.places (m:Int)+(lo+i * y.regs) - ele y.places (a:Int)=(i - (ele y.places (a:Int) - ele y.places (m:Int)) / y.regs - ((4000 / y.pace+1) / y.regs+2)) * y.regs:=by
   rw[Int.sub_mul,Int.sub_mul,e2,Int.mul_comm ((ele y.places (a:Int) - ele y.places (m:Int)) / y.regs)]
   omega
  rw[e,Int.mul_emod_left]
 have X:=Iz (f:=Kh y.outs y.pace y.regs y.ready a m us) (ρ:=Bool) (fun i=>lo+(i:Int) * y.regs) N (fun i=>¬(((m:Int)≠a∨lo+(i:Int) * y.regs≠0)∧Aaa y a m (lo+(i:Int) * y.regs))) (fun _=>false) (fun i hi _=>by
  have h1:=hst i hi
  unfold Kh
  rw[hf,Bu (by omega),bad_s hy ha hm (by omega) (by omega) u2 u3,Ka]
  have hb:((((m:Int) != a) || (lo+(i:Int) * y.regs != 0))&&(if (((m:Int) != a) || (lo+(i:Int) * y.regs != 0))=true then tb (Aaa y a m (lo+(i:Int) * y.regs)) else false))=tb (((m:Int)≠a∨lo+(i:Int) * y.regs≠0)∧Aaa y a m (lo+(i:Int) * y.regs)):=by
   rw[show (((m:Int) != a) || (lo+(i:Int) * y.regs != 0))=tb ((m:Int)≠a∨lo+(i:Int) * y.regs≠0) from H7 (by simp)]
   by_cases c:((m:Int)≠a∨lo+(i:Int) * y.regs≠0)
   ·rw[Cc c,if_pos rfl,Bool.true_and];exact E7 ⟨fun h=>⟨c,h⟩,fun h=>h.2⟩
   ·rw[B0 c,Bool.false_and,B0 fun h=>c h.1]
  rw[hb]
  exact⟨fun h=>by rw[B0 h,br_false,Aj (by omega) (by omega)];refine congrArg some (congrArg Stp.next ?_);rw[show ((i+1:Nat):Int)=(i:Int)+1 from by omega,Int.add_mul];omega,fun h=>by rw[Cc (Classical.not_not.1 h),br_true]⟩) (by
  unfold Kh
  rw[hf]
  exact Bt (by omega))
 rw[show lo+((0:Nat):Int) * y.regs=lo from by rw[show ((0:Nat):Int)=0 from rfl,Int.zero_mul];omega] at X
 rcases X with ⟨h1,e⟩ | ⟨i,h1,h2,_,e⟩
 ·rw[e,bd_ret,Out.on_go,Cc]
  intro j hj hz hbad
  have hb:=Alk hy ha hm hbad
  obtain⟨z,hz⟩:=Int.dvd_of_emod_eq_zero hz
  have h3:=Int.emod_add_mul_ediv (ele y.places (a:Int) - ele y.places (m:Int)) y.regs
  have e3:j - lo=y.regs * (z+(ele y.places (a:Int) - ele y.places (m:Int)) / y.regs+((4000 / y.pace+1) / y.regs+2)):=by
   rw[Int.mul_add,Int.mul_add,←hz,Int.mul_comm y.regs ((4000 / y.pace+1) / y.regs+2),e2]
   omega
  generalize z+(ele y.places (a:Int) - ele y.places (m:Int)) / y.regs+((4000 / y.pace+1) / y.regs+2)=i at e3
  have hi0:0≤i:=by
   by_cases c:i<0
   ·have:=Int.mul_le_mul_of_nonneg_left (show i≤-1 by omega) (show 0≤y.regs by omega)
    omega
   ·omega
  have hi1:i≤(Wd y - lo) / y.regs:=Int.le_ediv_of_mul_le (by omega) (by rw[Int.mul_comm];omega)
  obtain⟨i',rfl⟩:=Int.eq_ofNat_of_zero_le hi0
  have hj':lo+(i':Int) * y.regs=j:=by rw[Int.mul_comm];omega
  have:=h1 i' (by omega)
  rw[hj'] at this
  exact this ⟨hj,hbad⟩
 ·rw[e,bd_ret,Out.on_ret,B0]
  intro h
  have h3:=Classical.not_not.1 h2
  exact h _ h3.1 (hcong i) h3.2
def Mn (op:Int):Int:=if op=4 then 1 else if op>10 then 2 else 0
def Afh:Stm:=⟨2,⟨0,0⟩,⟨0,0⟩,0,0,0,0⟩
def Eh (o:Opr):Stm:=⟨o.op,⟨0,0⟩,⟨0,0⟩,o.ar,o.sp,o.pl,o.n⟩
def lpO (logs:List Int) (o:Opr):Lp:=⟨logs,[Afh,Eh o],[]⟩
def Aoj (k:Krn) (o:Opr):Prop:=0≤o.slot∧o.slot<k.pace∧0≤o.stage∧o.stage<k.stages∧o.stage * k.pace+o.slot≤1000
def Aek (t:Tgt) (o:Opr):Prop:=0≤o.dest∧o.dest<t.regs∧0≤o.a∧o.a<t.regs∧0≤o.b∧o.b<t.regs∧(Mn o.op<1→o.a=0)∧(Mn o.op<2→o.b=0)
def Oz (t:Tgt) (k:Krn) (o:Opr) (logs:List Int):Prop:=Aoj k o∧Aek t o∧LoopOk (lpO logs o)
def Lu (k:Krn) (i:Nat):Int×Int:=((ele k.ops (i:Int)).slot,Fl (ele k.ops (i:Int)).op)
def Rj (k:Krn) (n:Nat) (κ:Int×Int):Nat:=(List.range n).countP fun j=>decide (Lu k j=κ)
theorem Ol (k:Krn) (n:Nat) (κ:Int×Int):Rj k (n+1) κ=Rj k n κ+if Lu k n=κ then 1 else 0:=by
 unfold Rj
 rw[List.range_succ,List.countP_append,List.countP_singleton]
 by_cases h:Lu k n=κ <;> simp[h]
theorem Age (k:Krn) (κ:Int×Int):∀ n,Rj k n κ≤n
 | 0=>Nat.le_refl _
 | n+1=>by rw[Ol];have:=Age k κ n;split <;> omega
structure KMayP (t:Tgt) (k:Krn) (logs:List Int):Prop where
 tgt:Cu t=true
 pace:1≤k.pace∧k.pace≤200
 stages:1≤k.stages∧k.stages≤1001
 n:1≤k.ops.length∧k.ops.length≤16
 one:∀ i:Nat,i<k.ops.length→Oz t k (ele k.ops (i:Int)) logs
 units:∀ i:Nat,i<k.ops.length→(Rj k k.ops.length (Lu k i):Int)≤Dt t (Lu k i).2
def Iy (y:LayD) (a:Int) (q:Nat):Int:=(ele y.places a - q - 1) % y.regs
def frA (y:LayD) (a:Int) (n:Nat):List Int:=(List.range n).map (Iy y a)
def K1 (y:LayD) (L:List Int):List Int:=L.flatMap fun a=>frA y a (Lv y.body a).toNat
def Kp (y:LayD) (L:List Int):Prop:=(K1 y L).Nodup
theorem Aez {l:List Int}{x:Int}:(l++[x]).Nodup↔l.Nodup∧x∉l:=by
 rw[List.nodup_append]
 constructor
 ·rintro ⟨h1,_,h3⟩
  exact⟨h1,fun h=>h3 x h x (by simp) rfl⟩
 ·rintro ⟨h1,h2⟩
  exact⟨h1,by simp,fun a ha b hb e=>by
   rw[List.mem_singleton] at hb
   subst hb;subst e
   exact h2 ha⟩
theorem Ac7 (y:LayD) (a:Int) (n:Nat):frA y a (n+1)=frA y a n++[Iy y a n]:=rm_succ.symm
theorem Zg {y:LayD}{a:Int}{F:List Int}:∀ n,(F++frA y a n).Nodup↔F.Nodup∧∀ i,i<n→Iy y a i∉F++frA y a i
 | 0=>by
  show (F++[]).Nodup↔_
  rw[List.append_nil]
  exact⟨fun h=>⟨h,fun i hi=>absurd hi (Nat.not_lt_zero _)⟩,fun h=>h.1⟩
 | n+1=>by
  rw[Ac7,←List.append_assoc,Aez,Zg n]
  constructor
  ·rintro ⟨⟨h1,h2⟩,h3⟩
   refine⟨h1,fun i hi=>?_⟩
   by_cases e:i=n
   ·subst e;exact h3
   ·exact h2 i (by omega)
  ·rintro ⟨h1,h2⟩
   exact⟨⟨h1,fun i hi=>h2 i (by omega)⟩,h2 n (by omega)⟩
theorem LayD.Ok.bk {y:LayD} (hy:y.Ok):∀ i:Nat,i<y.body.length→∀ r∈A3 (ele y.body (i:Int)),0≤r.bk∧r.bk≤3:=fun i hi r hr=>(hy.us i hi r hr).2.2
theorem Aam {y:LayD} (hy:y.Ok) (a:Int):0≤Lv y.body a∧Lv y.body a≤3:=Af7 hy.bk a _ (Nat.le_refl _)
theorem Ala {y:LayD} (hy:y.Ok) {L:List Int}{i:Nat} (hi:i<L.length) (hL:∀ x∈L,0≤x∧x<y.body.length) {n:Nat} (hn:n≤3) {F:List Int}{m:List (Int×Bool)} (hm:∀ v,Dm m v false=true↔v∈F) :
  ((∀ q,q<n→Iy y (ele L (i:Int)) q∉F++frA y (ele L (i:Int)) q)∧∃ m',lp (Gi y.regs y.places L i n) (m,0)=some (.go (m',(n:Int)))∧∀ v,Dm m' v false=true↔v∈F++frA y (ele L (i:Int)) n)∨(¬(∀ q,q<n→Iy y (ele L (i:Int)) q∉F++frA y (ele L (i:Int)) q)∧lp (Gi y.regs y.places L i n) (m,0)=some (.ret false)):=by
 have hR:=hy.regs
 have ha:=hL _ (Cv hi)
 obtain⟨a,haa⟩:=Int.eq_ofNat_of_zero_le ha.1
 have hp:=hy.pl a (by omega)
 have hlp:=hy.lp
 rw[←haa] at hp
 refine Aae (f:=Gi y.regs y.places L i n) (n:=n) (r0:=false) (fun q=>Iy y (ele L (i:Int)) q∉F++frA y (ele L (i:Int)) q) (fun q m=>∀ v,Dm m v false=true↔v∈F++frA y (ele L (i:Int)) q) (fun q g hq hg=>?_) (fun g=>by unfold Gi;exact Bt (by omega)) m (fun v=>by rw[hm];show _↔v∈F++[];rw[List.append_nil])
 have ht:=Jp (ele y.places (ele L (i:Int)) - (q:Int) - 1) (show 0<y.regs by omega)
 have he:(ele y.places (ele L (i:Int)) - (q:Int) - 1) % y.regs=Iy y (ele L (i:Int)) q:=rfl
 unfold Gi
 simp only
 rw[Bu (by omega),Av (by omega) (by unfold ln;omega),Aj (by omega) (by omega),Aj (by omega) (by omega),Ao (by omega),Aj (by omega) (by omega),Ao (by omega),tm2 hR.1 hR.2,he]
 by_cases h:Iy y (ele L (i:Int)) q∈F++frA y (ele L (i:Int)) q
 ·rw[(hg _).2 h,br_true]
  exact .inr ⟨fun h'=>h' h,rfl⟩
 ·have hf:Dm g (Iy y (ele L (i:Int)) q) false=false:=by
   cases hh:Dm g (Iy y (ele L (i:Int)) q) false with
   | false=>rfl
   | true=>exact absurd ((hg _).1 hh) h
  rw[hf,br_false,Aj (by omega) (by omega)]
  refine .inl ⟨h,_,rfl,fun v=>?_⟩
  rw[J8,Ac7,←List.append_assoc,List.mem_append,List.mem_singleton,←hg]
  by_cases e:Iy y (ele L (i:Int)) q=v
  ·rw[if_pos e];simp[e]
  ·rw[if_neg e]
   exact⟨.inl,fun h=>h.resolve_right fun h=>e h.symm⟩
theorem Xp {y:LayD}{L:List Int}{i:Nat} (hi:i<L.length):K1 y (L.take (i+1))=K1 y (L.take i)++frA y (ele L (i:Int)) (Lv y.body (ele L (i:Int))).toNat:=by
 rw[Eu hi]
 unfold K1
 rw[List.flatMap_append]
 simp
theorem Sl {y:LayD}{L:List Int}:∀ n,n≤L.length→((K1 y (L.take n)).Nodup↔∀ i,i<n→∀ q,q<(Lv y.body (ele L (i:Int))).toNat→Iy y (ele L (i:Int)) q∉K1 y (L.take i)++frA y (ele L (i:Int)) q)
 | 0,_=>by simp[K1]
 | n+1,h=>by
  rw[Xp (by omega),Zg,Sl n (by omega)]
  constructor
  ·rintro ⟨h1,h2⟩ i hi
   by_cases e:i=n
   ·subst e;exact h2
   ·exact h1 i (by omega)
  ·intro h1
   exact⟨fun i hi=>h1 i (by omega),h1 n (by omega)⟩
theorem Ac8 {y:LayD} (hy:y.Ok) {L:List Int} (hL:∀ x∈L,0≤x∧x<y.body.length) (hl:L.length≤100000):Iq y.logs y.body y.outs y.pace y.regs y.places L=some (tb (Kp y L)):=by
 have hn:=hy.n
 unfold Iq
 have X:=Aae (f:=Je y.logs y.body y.outs y.regs y.places L) (n:=L.length) (r0:=false) (fun i=>∀ q,q<(Lv y.body (ele L (i:Int))).toNat→Iy y (ele L (i:Int)) q∉K1 y (L.take i)++frA y (ele L (i:Int)) q) (fun i m=>∀ v,Dm m v false=true↔v∈K1 y (L.take i)) (fun i g hi hg=>by
  have hf:=Aam hy (ele L (i:Int))
  obtain⟨n,hn'⟩:=Int.eq_ofNat_of_zero_le hf.1
  unfold Je
  simp only
  rw[Bu (by unfold ln;omega),Av (by omega) (by unfold ln;omega),An8 (l:=⟨y.logs,y.body,y.outs⟩) hn.2 hy.bk,bd_ret,show Lv (Lp.mk y.logs y.body y.outs).body (ele L (i:Int))=Lv y.body (ele L (i:Int)) from rfl,hn',Int.toNat_natCast]
  rcases Ala hy hi hL (n:=n) (by omega) hg with ⟨h1,m',h2,h3⟩ | ⟨h1,h2⟩
  ·refine .inl ⟨h1,m',?_,fun v=>?_⟩
   ·rw[h2,bd_ret,Out.on_go,Aj (by omega) (by omega)]
   ·rw[h3,Xp hi,hn',Int.toNat_natCast]
  ·exact .inr ⟨h1,by rw[h2,bd_ret,Out.on_ret]⟩) (fun g=>by unfold Je;exact Bt (by unfold ln;omega)) [] (fun v=>by simp[K1,Akp])
 have hN:=Sl (y:=y) (L:=L) L.length (Nat.le_refl _)
 rw[List.take_length] at hN
 rcases X with ⟨h1,m,e,_⟩ | ⟨h1,e⟩
 ·rw[e,bd_ret,Out.on_go,Cc (p:=Kp y L) (hN.2 h1)]
 ·rw[e,bd_ret,Out.on_ret,B0 fun h:Kp y L=>h1 (hN.1 h)]
noncomputable def Fu (l:Lp) (t:Tgt) (p:Pln):((List Int)×Int)→Option (Stp ((List Int)×Int) (Empty)):=fun (v12_1,x26_1) =>
 br (decide (x26_1<(ln l.body))) (
 ck (IX x26_1 (ln l.body)) <|
 ck (IX x26_1 (ln p.times)) <|
 bd (Ec t ((ele l.body x26_1).op)) fun x29 =>
 ck (IR ((ele p.times x26_1)+x29)) <|
 ck (AL (v12_1++[((ele p.times x26_1)+x29)]).length 8) <|
 ck (IR (x26_1+1)) <|
 some (.next ((v12_1++[((ele p.times x26_1)+x29)]),(x26_1+1)))) (
 some (.brk (v12_1,x26_1)))
noncomputable def Jv (l:Lp) (t:Tgt) (p:Pln):Option ((List Int×List Stm×List Int×Int×Int×List Int×List Int×List Int)) :=
 ck (0≤(ln l.body)) <|
 ck (AL (ln l.body).toNat 8) <|
 bd (lp (Fu l t p) ([],0)) fun o13=>o13.on (fun (v12_1,x26_1) =>
 some (l.logs,l.body,l.outs,p.pace,t.regs,p.times,v12_1,(List.replicate (ln l.body).toNat (0:Int)))) (fun r=>r.elim)
noncomputable def Gd (y_Loop_Body:List Stm) (y_Loop_Outs:List Int) (y_Pace y_Regs:Int) (y_Time y_Ready y_Places:List Int) (k_:Int):((List Int)×Int)→Option (Stp ((List Int)×Int) (Bool)):=fun (v3_1,x9_1) =>
 br (decide (x9_1<(k_+1))) (
 ck (AL (v3_1++[x9_1]).length 8) <|
 bd (Ie y_Loop_Body y_Loop_Outs y_Pace y_Regs y_Time y_Ready y_Places k_ x9_1) fun x16 =>
 bdG (!(!x16)) (Ie y_Loop_Body y_Loop_Outs y_Pace y_Regs y_Time y_Ready y_Places x9_1 k_) fun x19 =>
 br ((!x16) || (!x19)) (
 some (.ret false)) (
 ck (IR (x9_1+1)) <|
 some (.next ((v3_1++[x9_1]),(x9_1+1))))) (
 some (.brk (v3_1,x9_1)))
noncomputable def G6 (y_Loop_Logs:List Int) (y_Loop_Body:List Stm) (y_Loop_Outs:List Int) (y_Pace y_Regs:Int) (y_Time y_Ready y_Places:List Int) (k_:Int):Option (Bool) :=
 ck (IR (k_+1)) <|
 bd (lp (Gd y_Loop_Body y_Loop_Outs y_Pace y_Regs y_Time y_Ready y_Places k_) ([],0)) fun o4=>o4.on (fun (v3_1,x9_1) =>
 bd (Iq y_Loop_Logs y_Loop_Body y_Loop_Outs y_Pace y_Regs y_Places v3_1) fun x9 =>
 some x9) (fun r=>some r)
noncomputable def Gp (y_Pace y_Regs:Int) (y_Time y_Places:List Int):((List Int)×Int)→Option (Stp ((List Int)×Int) (Empty)):=fun (v1_1,x11_1) =>
 br (decide (x11_1<(ln y_Places))) (
 ck (IX x11_1 (ln y_Places)) <|
 ck (IX x11_1 (ln y_Time)) <|
 ck (y_Pace≠0) <|
 ck (IR (Int.tdiv (ele y_Time x11_1) y_Pace)) <|
 ck (IR ((ele y_Places x11_1) - (Int.tdiv (ele y_Time x11_1) y_Pace))) <|
 bd (F9 ((ele y_Places x11_1) - (Int.tdiv (ele y_Time x11_1) y_Pace)) y_Regs) fun x23 =>
 ck (AL (v1_1++[x23]).length 8) <|
 ck (IR (x11_1+1)) <|
 some (.next ((v1_1++[x23]),(x11_1+1)))) (
 some (.brk (v1_1,x11_1)))
noncomputable def I8 (y_Pace y_Regs:Int) (y_Time y_Places:List Int):Option (List Int) :=
 bd (lp (Gp y_Pace y_Regs y_Time y_Places) ([],0)) fun o2=>o2.on (fun (v1_1,x11_1) =>
 some v1_1) (fun r=>r.elim)
noncomputable def Dl (y_Loop_Logs:List Int) (y_Loop_Body:List Stm) (y_Loop_Outs:List Int) (y_Pace y_Regs:Int) (y_Time y_Ready:List Int) (x10_3:Int):(List Int)→Option (Stp ((List Int)) (Bool×List Int)):=fun own0v7_4 =>
 bd (G6 y_Loop_Logs y_Loop_Body y_Loop_Outs y_Pace y_Regs y_Time y_Ready own0v7_4 x10_3) fun x18 =>
 br (!x18) (
 ck (IX x10_3 (ln own0v7_4)) <|
 ck (IR ((ele own0v7_4 x10_3)+1)) <|
 br (decide (((ele own0v7_4 x10_3)+1)≥y_Regs)) (
 some (.ret (false,own0v7_4))) (
 ck (IX x10_3 (ln own0v7_4)) <|
 ck (IR ((ele own0v7_4 x10_3)+1)) <|
 ck (IX x10_3 (ln own0v7_4)) <|
 some (.next (upd own0v7_4 x10_3 ((ele own0v7_4 x10_3)+1))))) (
 some (.brk own0v7_4))
noncomputable def Hs (y_Loop_Logs:List Int) (y_Loop_Body:List Stm) (y_Loop_Outs:List Int) (y_Pace y_Regs:Int) (y_Time y_Ready:List Int):((List Int)×Int)→Option (Stp ((List Int)×Int) (Bool×List Int)):=fun (own0v7_3,x10_3) =>
 br (decide (x10_3<(ln y_Loop_Body))) (
 ck (IX x10_3 (ln own0v7_3)) <|
 bd (lp (Dl y_Loop_Logs y_Loop_Body y_Loop_Outs y_Pace y_Regs y_Time y_Ready x10_3) (upd own0v7_3 x10_3 0)) fun o13=>o13.on (fun own0v7_4 =>
 ck (IR (x10_3+1)) <|
 some (.next (own0v7_4,(x10_3+1)))) (fun r=>some (.ret r))) (
 some (.brk (own0v7_3,x10_3)))
noncomputable def I7 (y_Loop_Logs:List Int) (y_Loop_Body:List Stm) (y_Loop_Outs:List Int) (y_Pace y_Regs:Int) (y_Time y_Ready y_Places:List Int):Option (Bool×List Int) :=
 bd (lp (Hs y_Loop_Logs y_Loop_Body y_Loop_Outs y_Pace y_Regs y_Time y_Ready) (y_Places,0)) fun o1=>o1.on (fun (own0v7_3,x10_3) =>
 some (true,own0v7_3)) (fun r=>some r)
noncomputable def Ft (y_Loop_Body:List Stm):((List Int)×Int)→Option (Stp ((List Int)×Int) (Empty)):=fun (own0v7_1,x11_1) =>
 br (decide (x11_1<(ln y_Loop_Body))) (
 ck (IR (5 * x11_1)) <|
 ck (IX x11_1 (ln own0v7_1)) <|
 ck (IR (x11_1+1)) <|
 some (.next ((upd own0v7_1 x11_1 (5 * x11_1)),(x11_1+1)))) (
 some (.brk (own0v7_1,x11_1)))
noncomputable def El (y_Loop_Logs:List Int) (y_Loop_Body:List Stm) (y_Loop_Outs:List Int) (y_Pace y_Regs:Int) (y_Time y_Ready own0v7_1:List Int):Int→Option (Stp (Int) (Bool×List Int)):=fun x29_2 =>
 br (decide (x29_2<(ln y_Loop_Body))) (
 bd (G6 y_Loop_Logs y_Loop_Body y_Loop_Outs y_Pace y_Regs y_Time y_Ready own0v7_1 x29_2) fun x13 =>
 br (!x13) (
 some (.ret (false,own0v7_1))) (
 ck (IR (x29_2+1)) <|
 some (.next (x29_2+1)))) (
 some (.brk x29_2))
noncomputable def Hr (y_Loop_Logs:List Int) (y_Loop_Body:List Stm) (y_Loop_Outs:List Int) (y_Pace y_Regs:Int) (y_Time y_Ready y_Places:List Int):Option (Bool×List Int) :=
 bd (lp (Ft y_Loop_Body) (y_Places,0)) fun o1=>o1.on (fun (own0v7_1,x11_1) =>
 bd (lp (El y_Loop_Logs y_Loop_Body y_Loop_Outs y_Pace y_Regs y_Time y_Ready own0v7_1) 0) fun o6=>o6.on (fun x29_2 =>
 some (true,own0v7_1)) (fun r=>some r)) (fun r=>r.elim)
noncomputable def Kd (l:Lp) (t:Tgt) (p:Pln):Option (List Int×Int) :=
 bd (Hq l t p) fun x4 =>
 br (!x4) (
 some ([],2)) (
 bd (Jv l t p) fun x10 =>
 bd (I7 x10.1 x10.2.1 x10.2.2.1 x10.2.2.2.1 x10.2.2.2.2.1 x10.2.2.2.2.2.1 x10.2.2.2.2.2.2.1 x10.2.2.2.2.2.2.2) fun x16 =>
 br (!x16.1) (
 bd (Hr x10.1 x10.2.1 x10.2.2.1 x10.2.2.2.1 x10.2.2.2.2.1 x10.2.2.2.2.2.1 x10.2.2.2.2.2.2.1 x16.2) fun x22 =>
 br (x16.1 || x22.1) (
 bd (I8 x10.2.2.2.1 x10.2.2.2.2.1 x10.2.2.2.2.2.1 x22.2) fun x30 =>
 some (x30,0)) (
 some ([],1))) (
 br (x16.1 || false) (
 bd (I8 x10.2.2.2.1 x10.2.2.2.2.1 x10.2.2.2.2.2.1 x16.2) fun x40 =>
 some (x40,0)) (
 some ([],1))))
def Ea (n:Nat):List Int:=(List.range n).map fun i:Nat=>(i:Int)
theorem Tl {n:Nat}{x:Int} (h:x∈Ea n):0≤x∧x<n:=by
 unfold Ea at h
 rw[List.mem_map] at h
 obtain⟨i,hi,rfl⟩:=h
 have:=List.mem_range.1 hi
 omega
theorem Kq (n:Nat):(Ea n).length=n:=by unfold Ea;simp
def LayD.wp (y:LayD) (v:List Int):LayD:={ y with places:=v }
def Pm (y:LayD) (k:Nat):Prop:=(∀ m:Nat,m<k+1→Jm y k m∧Jm y m k)∧Kp y (Ea (k+1))
def V9 (y:LayD):Prop:=(∀ a m:Nat,a<y.body.length→m<y.body.length→Jm y a m)∧Kp y (Ea y.body.length)
theorem Ajp {y:LayD} (hy:y.Ok) {k:Nat} (hk:k<y.body.length):G6 y.logs y.body y.outs y.pace y.regs y.time y.ready y.places k=some (tb (Pm y k)):=by
 have hn:=hy.n
 unfold G6
 rw[Aj (by omega) (by omega)]
 have X:=Iz (f:=Gd y.body y.outs y.pace y.regs y.time y.ready y.places k) (ρ:=Bool) (fun i=>(Ea i,(i:Int))) (k+1) (fun m=>Jm y k m∧Jm y m k) (fun _=>false) (fun i hi _=>by
  unfold Gd
  simp only
  have e:Ea i++[(i:Int)]=Ea (i+1):=rm_succ (g:=fun i:Nat=>(i:Int))
  rw[Bu (by omega),e,Ao (AL8 (by rw[Kq];omega)),Abh hy hk (show i<y.body.length by omega),bd_ret,Abh hy (show i<y.body.length by omega) hk,Ka]
  by_cases h1:Jm y k i <;> by_cases h2:Jm y i k
  ·rw[Cc h1,Cc h2]
   exact⟨fun _=>by rw[show ((!true) || (!(if (!(!true))=true then true else false)))=false from rfl,br_false,Aj (by omega) (by omega)];rfl,fun h=>absurd ⟨h1,h2⟩ h⟩
  ·rw[Cc h1,B0 h2]
   exact⟨fun h=>absurd h.2 h2,fun _=>rfl⟩
  ·rw[B0 h1]
   exact⟨fun h=>absurd h.1 h1,fun _=>rfl⟩
  ·rw[B0 h1]
   exact⟨fun h=>absurd h.1 h1,fun _=>rfl⟩) (by unfold Gd;exact Bt (by omega))
 rcases X with ⟨h1,e⟩ | ⟨i,h1,h2,_,e⟩
 ·rw[show lp (Gd y.body y.outs y.pace y.regs y.time y.ready y.places k) ([],0)=_ from e,bd_ret,Out.on_go]
  simp only
  rw[Ac8 hy (fun x hx=>by have:=Tl hx;omega) (by rw[Kq];omega),bd_ret]
  congr 1
  exact E7 ⟨fun h=>⟨h1,h⟩,fun h=>h.2⟩
 ·rw[show lp (Gd y.body y.outs y.pace y.regs y.time y.ready y.places k) ([],0)=_ from e,bd_ret,Out.on_ret,B0 fun h:Pm y k=>h2 (h.1 i h1)]
structure PlOk (y:LayD) (v:List Int):Prop where
 len:v.length=y.body.length
 bd:∀ i:Nat,i<y.body.length→0≤ele v (i:Int)∧ele v (i:Int)≤128
theorem LayD.Ok.wp {y:LayD} (hy:y.Ok) {v:List Int} (hv:PlOk y v):(y.wp v).Ok :=
 ⟨hy.n,hy.lt,hy.lr,hv.len,hy.lo,hy.pace,hy.regs,hy.tm,hy.rd,fun i hi=>by have:=hv.bd i hi;exact⟨by show -100000≤ele v _;omega,by show ele v _≤100000;omega⟩,hy.us⟩
theorem Apx {y:LayD}{v w:List Int}{a m j:Int} (h:Aaa (y.wp v) a m j):Aaa (y.wp w) a m j:=by
 rcases h with ⟨k,r,h1,h2,h3,h4⟩ | h
 ·exact .inl ⟨k,r,h1,h2,h3,h4⟩
 ·exact .inr h
theorem Ad0 {y:LayD}{v w:List Int}{a m:Nat} (h1:ele v (a:Int)=ele w (a:Int)) (h2:ele v (m:Int)=ele w (m:Int)) (h:Jm (y.wp v) a m):Jm (y.wp w) a m:=fun j hj hz hb =>
 h j hj (by show (ele v (m:Int)+j - ele v (a:Int)) % y.regs=0;rw[h1,h2];exact hz) (Apx hb)
theorem Aja {y:LayD}{v:List Int} (hv:PlOk y v) {k:Nat} (hk:k<y.body.length) {c:Int} (h0:0≤c) (h1:c≤128):PlOk y (upd v k c):=by
 refine⟨by rw[Aav];exact hv.len,fun i hi=>?_⟩
 by_cases e:i=k
 ·subst e
  rw[Lq ⟨by omega,by unfold ln;have:=hv.len;omega⟩]
  exact⟨h0,h1⟩
 ·rw[Hc (by omega)];exact hv.bd i hi
theorem Zo {y:LayD} (hy:y.Ok) {v:List Int} (hv:PlOk y v) {k:Nat} (hk:k<y.body.length):∀ (d c:Nat),(c:Int)+d+1=y.regs →
  (∃ c':Nat,c'≤128∧lp (Dl y.logs y.body y.outs y.pace y.regs y.time y.ready k) (upd v k (c:Int))=some (.go (upd v k (c':Int)))∧Pm (y.wp (upd v k (c':Int))) k)∨(∃ v',lp (Dl y.logs y.body y.outs y.pace y.regs y.time y.ready k) (upd v k (c:Int))=some (.ret (false,v'))∧PlOk y v')
 | d,c,hd=>by
  have hR:=hy.regs
  have hp:=Aja hv hk (c:=c) (by omega) (by omega)
  have hix:IX (k:Int) (ln v):=⟨by omega,by unfold ln;have:=hv.len;omega⟩
  have hix2:IX (k:Int) (ln (upd v k (c:Int))):=⟨by omega,by unfold ln;rw[Aav];have:=hv.len;omega⟩
  have hfs:G6 y.logs y.body y.outs y.pace y.regs y.time y.ready (upd v k (c:Int)) k=some (tb (Pm (y.wp (upd v k (c:Int))) k)):=Ajp (hy.wp hp) hk
  by_cases hf:Pm (y.wp (upd v k (c:Int))) k
  ·refine .inl ⟨c,by omega,C0 ?_,hf⟩
   unfold Dl
   rw[hfs,bd_ret,Cc hf];rfl
  ·match d,hd with
   | 0,hd =>
    refine .inr ⟨upd v k (c:Int),K8 ?_,hp⟩
    unfold Dl
    rw[hfs,bd_ret,B0 hf,Bool.not_false,br_true,Ao hix2,Lq hix,Aj (by omega) (by omega),Bu (by omega)]
   | d+1,hd =>
    have hstep:Dl y.logs y.body y.outs y.pace y.regs y.time y.ready k (upd v k (c:Int))=some (.next (upd v k ((c+1:Nat):Int))):=by
     unfold Dl
     rw[hfs,bd_ret,B0 hf,Bool.not_false,br_true,Ao hix2,Lq hix,Aj (by omega) (by omega),Bt (by omega),Ao hix2,Aj (by omega) (by omega),Ao hix2,Al4]
     rfl
    rcases Zo hy hv hk d (c+1) (by omega) with ⟨c',q1,q2,q3⟩ | ⟨v',q1,q2⟩
    ·exact .inl ⟨c',q1,Cr hstep q2,q3⟩
    ·exact .inr ⟨v',Cr hstep q1,q2⟩
theorem Am0 {y:LayD} (hy:y.Ok) (hpl:PlOk y y.places):∃ b v,I7 y.logs y.body y.outs y.pace y.regs y.time y.ready y.places=some (b,v)∧PlOk y v∧(b=true→V9 (y.wp v)):=by
 have hn:=hy.n
 have hR:=hy.regs
 have X:=Amo (f:=Hs y.logs y.body y.outs y.pace y.regs y.time y.ready) (n:=y.body.length) (fun i v=>PlOk y v∧(∀ a m:Nat,a<i→m<i→Jm (y.wp v) a m)∧Kp (y.wp v) (Ea i)) (fun r=>r.1=false∧PlOk y r.2) (fun i v hi hg=>by
  obtain⟨q1,q2,q3⟩:=hg
  have hix:IX (i:Int) (ln v):=⟨by omega,by unfold ln;have:=q1.len;omega⟩
  unfold Hs
  simp only
  rw[Bu (by unfold ln;omega),Ao hix]
  rcases Zo hy q1 hi (y.regs - 1).toNat 0 (by omega) with ⟨c',w1,w2,w3⟩ | ⟨v',w1,w2⟩
  ·refine .inl ⟨upd v i (c':Int),?_,Aja q1 hi (by omega) (by omega),fun a m ha hm=>?_,w3.2⟩
   ·rw[show lp (Dl y.logs y.body y.outs y.pace y.regs y.time y.ready i) (upd v i 0)=_ from w2,bd_ret,Out.on_go,Aj (by omega) (by omega)]
   ·by_cases e1:a=i
    ·subst e1;exact(w3.1 m hm).1
    ·by_cases e2:m=i
     ·subst e2;exact(w3.1 a ha).2
     ·exact Ad0 (Hc (by omega)).symm (Hc (by omega)).symm (q2 a m (by omega) (by omega))
  ·exact .inr ⟨(false,v'),by rw[show lp (Dl y.logs y.body y.outs y.pace y.regs y.time y.ready i) (upd v i 0)=_ from w1,bd_ret,Out.on_ret],rfl,w2⟩) (fun g=>by unfold Hs;exact Bt (by unfold ln;omega)) y.places ⟨hpl,fun a m h=>absurd h (Nat.not_lt_zero _),by unfold Kp Ea K1;simp⟩
 unfold I7
 rcases X with ⟨v,e,q1,q2,q3⟩ | ⟨⟨b,v⟩,e,q1,q2⟩
 ·exact⟨true,v,by rw[e,bd_ret,Out.on_go],q1,fun _=>⟨q2,q3⟩⟩
 ·exact⟨b,v,by rw[e,bd_ret,Out.on_ret],q2,fun h=>by
   have q1':b=false:=q1
   rw[q1'] at h;cases h⟩
def spV (n:Nat):List Int:=(List.range n).map fun i:Nat=>5 * (i:Int)
theorem Ab7 {y:LayD} (hy:y.Ok):PlOk y (spV y.body.length):=by
 have hn:=hy.n
 exact⟨by unfold spV;simp,fun i hi=>by rw[show ele (spV y.body.length) (i:Int)=5 * (i:Int) from Fa hi];omega⟩
theorem Aj8 {y:LayD} (hy:y.Ok) (hpl:PlOk y y.places):∃ b,Hr y.logs y.body y.outs y.pace y.regs y.time y.ready y.places=some (b,spV y.body.length)∧(b=true↔∀ k,k<y.body.length→Pm (y.wp (spV y.body.length)) k):=by
 have hn:=hy.n
 have e0:y.places=(List.range y.body.length).map fun j:Nat=>if j<0 then 5 * (j:Int) else ele y.places (j:Int):=by
  conv=>lhs;rw[←Oi y.places,hpl.len]
  exact Gy fun j hj=>by rw[if_neg (by omega)]
 have e1:spV y.body.length=(List.range y.body.length).map fun j:Nat=>if j<y.body.length then 5 * (j:Int) else ele y.places (j:Int):=Gy fun j hj=>by rw[if_pos hj]
 have X:=Ew (f:=Ft y.body) (ρ:=Empty) (fun i=>((List.range y.body.length).map fun j:Nat=>if j<i then 5 * (j:Int) else ele y.places (j:Int),(i:Int))) y.body.length (fun i hi=>by
  unfold Ft
  simp only
  rw[Bu (by unfold ln;omega),Aj (by omega) (by omega),Av (by omega) (by rw[U8];omega),Aj (by omega) (by omega),R0 hi]
  refine congrArg some (congrArg Stp.next (Prod.ext (Gy fun j hj=>?_) rfl))
  by_cases a:j=i
  ·subst a;rw[if_pos rfl,if_pos (by omega)]
  ·rw[if_neg a]
   by_cases b:j<i
   ·rw[if_pos b,if_pos (by omega)]
   ·rw[if_neg b,if_neg (by omega)]) (by unfold Ft;exact Bt (by unfold ln;omega))
 unfold Hr
 have X':lp (Ft y.body) (y.places,0)=some (.go (spV y.body.length,(y.body.length:Int))):=by
  rw[e1]
  conv=>lhs;rw[e0]
  exact X
 rw[X',bd_ret,Out.on_go]
 simp only
 have Y:=Iz (f:=El y.logs y.body y.outs y.pace y.regs y.time y.ready (spV y.body.length)) (fun i=>(i:Int)) y.body.length (fun k=>Pm (y.wp (spV y.body.length)) k) (fun _=>(false,spV y.body.length)) (fun k hk _=>by
  have hfs:G6 y.logs y.body y.outs y.pace y.regs y.time y.ready (spV y.body.length) k=some (tb (Pm (y.wp (spV y.body.length)) k)):=Ajp (hy.wp (Ab7 hy)) hk
  unfold El
  rw[Bu (by unfold ln;omega),hfs,bd_ret]
  exact⟨fun h=>by rw[Cc h,Bool.not_true,br_false,Aj (by omega) (by omega)];rfl,fun h=>by rw[B0 h,Bool.not_false,br_true]⟩) (by unfold El;exact Bt (by unfold ln;omega))
 rcases Y with ⟨h1,e⟩ | ⟨k,h1,h2,_,e⟩
 ·exact⟨true,by rw[show lp (El y.logs y.body y.outs y.pace y.regs y.time y.ready (spV y.body.length)) 0=_ from e,bd_ret,Out.on_go],⟨fun _=>h1,fun _=>rfl⟩⟩
 ·exact⟨false,by rw[show lp (El y.logs y.body y.outs y.pace y.regs y.time y.ready (spV y.body.length)) 0=_ from e,bd_ret,Out.on_ret],⟨fun h=>(by cases h),fun h=>absurd (h k h1) h2⟩⟩
theorem Afb {y:LayD} (hy:y.Ok) (h:∀ k,k<y.body.length→Pm y k):V9 y:=by
 have hn:=hy.n
 refine⟨fun a m ha hm=>?_,?_⟩
 ·by_cases c:m≤a
  ·exact((h a ha).1 m (by omega)).1
  ·exact((h m hm).1 a (by omega)).2
 ·have:=(h (y.body.length - 1) (by omega)).2
  rw[show y.body.length - 1+1=y.body.length from by omega] at this
  exact this
def Ue (l:Lp) (t:Tgt) (p:Pln):List Int:=(List.range l.body.length).map fun i:Nat=>ele p.times (i:Int)+Cn t (ele l.body (i:Int)).op
def H5 (l:Lp) (t:Tgt) (p:Pln):LayD:=⟨l.logs,l.body,l.outs,p.pace,t.regs,p.times,Ue l t p,List.replicate l.body.length 0⟩
theorem Ame {n i:Nat} (hi:i<n):ele (List.replicate n (0:Int)) (i:Int)=0:=by rw[Cs,List.getD_eq_getElem?_getD];simp[List.getElem?_replicate,hi]
theorem Aa2 {l:Lp}{t:Tgt}{p:Pln} (h:LegalP l t p):(H5 l t p).Ok∧PlOk (H5 l t p) (H5 l t p).places:=by
 have ht:=h.tgt
 rw[Dj] at ht
 have hp0:PlOk (H5 l t p) (H5 l t p).places:=⟨by show (List.replicate _ _).length=l.body.length;simp,fun i hi=>by rw[show ele (H5 l t p).places (i:Int)=0 from Ame hi];omega⟩
 refine⟨⟨⟨h.loop.2.1,h.loop.2.2.1⟩,h.len,by show (Ue l t p).length=_;unfold Ue;simp;rfl,hp0.len,by have:=Qc h.loop;show l.outs.length≤_;omega,h.pace,ht.2.2.2,fun i hi=>h.rng i hi,fun i hi=>?_,fun i hi=>?_,fun i hi r hr=>?_⟩,hp0⟩
 ·have h1:=h.rng i hi
  have hw:=Mz t (ele l.body (i:Int)).op
  unfold Pr at h1
  rw[show ele (H5 l t p).ready (i:Int)=ele p.times (i:Int)+Cn t (ele l.body (i:Int)).op from Fa hi]
  omega
 ·have:=hp0.bd i hi;omega
 ·have hi':i<l.body.length:=hi
  have h1:=S7 h.loop hi' hr
  have h2:=h1.st (by omega)
  exact⟨h2.1,h2.2,h1.1,h1.2.1⟩
def Mq (t:Tgt) (p:Pln) (n:Nat) (v:List Int):List Int:=(List.range n).map fun i:Nat=>(ele v (i:Int) - Dp p i) % t.regs
theorem Agc {l:Lp}{t:Tgt}{p:Pln} (h:LegalP l t p) {v:List Int} (hv:PlOk (H5 l t p) v):I8 p.pace t.regs p.times v=some (Mq t p l.body.length v):=by
 have ht:=h.tgt
 rw[Dj] at ht
 have hn:=h.loop.2.2.1
 have hl:=h.len
 have hvl:v.length=l.body.length:=hv.len
 have hpc:=h.pace
 have X:=Ew (f:=Gp p.pace t.regs p.times v) (ρ:=Empty) (fun i=>((List.range i).map fun i:Nat=>(ele v (i:Int) - Dp p i) % t.regs,(i:Int))) l.body.length (fun i hi=>by
  have hs:=R4 hpc (h.rng i hi)
  have hb:=hv.bd i hi
  unfold Dp at hs
  unfold Gp
  simp only
  rw[Bu (by unfold ln;omega),Av (by omega) (by unfold ln;omega),Av (by omega) (by unfold ln;omega),Ao (by omega),Aj (by omega) (by omega),Aj (by omega) (by omega),Tb (by omega) (by omega),bd_ret,Ao (AL8 (by simp;omega)),Aj (by omega) (by omega),show (ele v (i:Int) - Int.tdiv (ele p.times (i:Int)) p.pace) % t.regs=(fun i:Nat=>(ele v (i:Int) - Dp p i) % t.regs) i from rfl,rm_succ]
  rfl) (by unfold Gp;exact Bt (by unfold ln;omega))
 unfold I8
 rw[show lp (Gp p.pace t.regs p.times v) ([],0)=_ from X,bd_ret,Out.on_go]
 rfl
theorem Akz {l:Lp}{t:Tgt}{p:Pln} (h:LegalP l t p):Jv l t p=some (l.logs,l.body,l.outs,p.pace,t.regs,p.times,Ue l t p,List.replicate l.body.length 0):=by
 have hn:=h.loop.2.2.1
 have hl:=h.len
 have X:=Ew (f:=Fu l t p) (ρ:=Empty) (fun i=>((List.range i).map fun i:Nat=>ele p.times (i:Int)+Cn t (ele l.body (i:Int)).op,(i:Int))) l.body.length (fun i hi=>by
  have h1:=h.rng i hi
  have hw:=Mz t (ele l.body (i:Int)).op
  unfold Pr at h1
  unfold Fu
  simp only
  rw[Bu (by unfold ln;omega),Av (by omega) (by unfold ln;omega),Av (by omega) (by unfold ln;omega),Jt,bd_ret,Aj (by omega) (by omega),Ao (AL8 (by simp;omega)),Aj (by omega) (by omega),rm_succ (g:=fun i:Nat=>ele p.times (i:Int)+Cn t (ele l.body (i:Int)).op)]
  rfl) (by unfold Fu;exact Bt (by unfold ln;omega))
 unfold Jv
 rw[Ao (Ahm _),Ao (AL8 (by unfold ln;omega)),show lp (Fu l t p) ([],0)=_ from X,bd_ret,Out.on_go]
 simp only[ln,Int.toNat_natCast]
 rfl
theorem Aev {l:Lp}{t:Tgt}{p:Pln} (hf:l.Fine) (h:LegalP l t p):(∃ v,PlOk (H5 l t p) v∧V9 ((H5 l t p).wp v)∧Kd l t p=some (Mq t p l.body.length v,0))∨(Kd l t p=some ([],1)∧¬∀ k,k<l.body.length→Pm ((H5 l t p).wp (spV l.body.length)) k):=by
 obtain⟨hy,hp0⟩:=Aa2 h
 obtain⟨b,v,e1,e2,e3⟩:=Am0 hy hp0
 have e1':I7 l.logs l.body l.outs p.pace t.regs p.times (Ue l t p) (List.replicate l.body.length 0)=some (b,v):=e1
 unfold Kd
 rw[Agn hf,bd_ret,Cc h,Bool.not_true,br_false,Akz h,bd_ret]
 simp only
 rw[e1',bd_ret]
 simp only
 cases b with
 | true=>exact .inl ⟨v,e2,e3 rfl,by rw[Bool.not_true,br_false,Bool.true_or,br_true,Agc h e2,bd_ret]⟩
 | false =>
  have hy2:=hy.wp e2
  obtain⟨b',f1,f2⟩:=Aj8 hy2 ⟨e2.len,e2.bd⟩
  have f1':Hr l.logs l.body l.outs p.pace t.regs p.times (Ue l t p) v=some (b',spV l.body.length):=f1
  rw[Bool.not_false,br_true,f1',bd_ret]
  simp only
  cases b' with
  | true =>
   refine .inl ⟨spV l.body.length,Ab7 hy,Afb (hy.wp (Ab7 hy)) (f2.1 rfl),?_⟩
   rw[Bool.or_true,br_true,Agc h (v:=spV l.body.length) (Ab7 hy),bd_ret]
  | false =>
   refine .inr ⟨by rw[Bool.or_self,br_false],fun hh=>?_⟩
   have:=f2.2 hh
   cases this
def A8 (k:Krn) (order:List Int) (s:Nat):Opr:=ele k.ops (ele order (s:Int))
def L9 (k:Krn) (o:Opr):Int:=o.slot+k.pace * o.stage
def Ls (t:Tgt) (k:Krn) (order:List Int) (s:Nat):Off:=⟨L9 k (A8 k order s),L9 k (A8 k order s)+Cn t (A8 k order s).op,(A8 k order s).dest+(A8 k order s).stage⟩
def Ba (l:Lp) (t:Tgt) (k:Krn) (order:List Int):LayD :=
 ⟨l.logs,l.body,l.outs,k.pace,t.regs,(List.range l.body.length).map fun s=>(Ls t k order s).time,(List.range l.body.length).map fun s=>(Ls t k order s).ready,(List.range l.body.length).map fun s=>(Ls t k order s).place⟩
def Wi (o:Opr) (x:Stm):Prop:=o.op=x.op∧o.ar=x.ar∧o.sp=x.sp∧o.pl=x.pl∧o.n=x.n
def Aio (l:Lp) (k:Krn) (order:List Int) (s:Nat):Prop:=(0≤ele order (s:Int)∧ele order (s:Int)<l.body.length)∧(∀ i,i<s→ele order (i:Int)≠ele order (s:Int))∧Wi (A8 k order s) (ele l.body (s:Int))
structure LayP (l:Lp) (t:Tgt) (k:Krn) (order:List Int):Prop where
 loop:LoopOk l
 tgt:Cu t=true
 may:KMayP t k l.logs
 n:k.ops.length=l.body.length
 no:order.length=l.body.length
 ord:∀ s,s<l.body.length→Aio l k order s
def Vc (l:Lp) (k:Krn):Prop:=∀ i:Nat,i<k.ops.length→(lpO l.logs (ele k.ops (i:Int))).Fine
theorem Ks {l:Lp}{t:Tgt}{k:Krn}{order:List Int} (hm:KMayP t k l.logs) (hn:k.ops.length=l.body.length) {s:Nat} (h:0≤ele order (s:Int)∧ele order (s:Int)<l.body.length):Oz t k (A8 k order s) l.logs:=by
 obtain⟨i,hi⟩:=Int.eq_ofNat_of_zero_le h.1
 unfold A8
 rw[hi]
 exact hm.one i (by omega)
theorem R6 {t:Tgt}{k:Krn}{o:Opr}{logs:List Int} (hm:KMayP t k logs) (h:Oz t k o logs):(0≤L9 k o∧L9 k o≤1000)∧(0≤k.pace * o.stage∧k.pace * o.stage≤1000)∧(0≤o.dest∧o.dest<128)∧(0≤o.stage∧o.stage≤1000):=by
 obtain⟨⟨a1,a2,a3,a4,a5⟩,⟨b1,b2,_⟩,_⟩:=h
 have ht:=hm.tgt
 rw[Dj] at ht
 have hp:=hm.pace;have hs:=hm.stages
 have h0:=Int.mul_nonneg (show 0≤k.pace by omega) a3
 have e:=Int.mul_comm o.stage k.pace
 unfold L9
 omega
theorem I0 {l:Lp}{t:Tgt}{k:Krn}{order:List Int} (h:LayP l t k order):(Ba l t k order).Ok:=by
 have ht:=h.tgt
 rw[Dj] at ht
 refine⟨⟨h.loop.2.1,h.loop.2.2.1⟩,by unfold Ba;simp,by unfold Ba;simp,by unfold Ba;simp,by have:=Qc h.loop;show l.outs.length≤_;omega,h.may.pace,ht.2.2.2,fun i hi=>?_,fun i hi=>?_,fun i hi=>?_,fun i hi r hr=>?_⟩
 all_goals have hi':i<l.body.length:=hi
 ·have ho:=R6 h.may (Ks h.may h.n (h.ord i hi').1)
  rw[show ele (Ba l t k order).time (i:Int)=(Ls t k order i).time from Fa hi']
  exact ho.1
 ·have ho:=R6 h.may (Ks h.may h.n (h.ord i hi').1)
  have hw:=Mz t (A8 k order i).op
  rw[show ele (Ba l t k order).ready (i:Int)=(Ls t k order i).ready from Fa hi']
  show 0≤L9 k (A8 k order i)+Cn t (A8 k order i).op∧L9 k (A8 k order i)+Cn t (A8 k order i).op≤1006
  omega
 ·have ho:=R6 h.may (Ks h.may h.n (h.ord i hi').1)
  rw[show ele (Ba l t k order).places (i:Int)=(Ls t k order i).place from Fa hi']
  show -100000≤(A8 k order i).dest+(A8 k order i).stage∧(A8 k order i).dest+(A8 k order i).stage≤100000
  omega
 ·have h1:=S7 h.loop hi' hr
  have h2:=h1.st (by omega)
  exact⟨h2.1,h2.2,h1.1,h1.2.1⟩
section
variable {l : Lp} {t : Tgt} {k : Krn} {order : List Int}
end
def Afj (o:Opr) (i:Nat):Int:=if i=1 then o.b else o.a
def Vb (l:Lp) (t:Tgt) (k:Krn) (order:List Int) (s i:Nat):Prop:=Afj (A8 k order s) i=(ele (Ba l t k order).places (ele (A3 (ele l.body (s:Int))) (i:Int)).st - (ele (A3 (ele l.body (s:Int))) (i:Int)).bk - (A8 k order s).stage) % t.regs
def P7 (y:LayD) (e:Edg):Prop:=ele y.time e.fr+e.wt≤ele y.time e.to+e.bk * y.pace
structure TakesP (l:Lp) (t:Tgt) (k:Krn) (order:List Int):Prop where
 lay:LayP l t k order
 edge:∀ e,EdgeP l t e→P7 (Ba l t k order) e
 name:∀ s,s<l.body.length→∀ i,i<(A3 (ele l.body (s:Int))).length→Vb l t k order s i
 apart:∀ a m:Nat,a<l.body.length→m<l.body.length→Jm (Ba l t k order) a m
 firsts:Kp (Ba l t k order) (Ea l.body.length)
theorem Qv {l:Lp}{t:Tgt}{k:Krn}{order:List Int} (h:LayP l t k order):∀ s:Nat,s<l.body.length→∀ r∈A3 (ele l.body (s:Int)),0≤r.st∧r.st<l.body.length∧0≤r.bk∧r.bk≤3:=fun s hs r hr=>(I0 h).us s hs r hr
theorem Up {n i:Nat} (h:i≤n):(Ea n).take i=Ea i:=by
 unfold Ea
 rw[←List.map_take,List.take_range,Nat.min_eq_left h]
theorem Oa {n i:Nat} (h:i<n):ele (Ea n) (i:Int)=i:=Fa h
theorem Xr {y:LayD} (n:Nat):Kp y (Ea n)↔∀ s,s<n→∀ q,q<(Lv y.body s).toNat→Iy y s q∉K1 y (Ea s)++frA y s q:=by
 have h:=Sl (y:=y) (L:=Ea n) n (by rw[Kq];exact Nat.le_refl _)
 rw[Up (Nat.le_refl _)] at h
 unfold Kp
 rw[h]
 constructor
 ·intro h1 s hs
  have:=h1 s hs
  rw[Oa hs,Up (by omega)] at this
  exact this
 ·intro h1 s hs
  rw[Oa hs,Up (by omega)]
  exact h1 s hs
section
variable {l : Lp} {t : Tgt} {k : Krn} {order : List Int}
end
theorem Aj3 {a b:Int} (ha:0≤a) (hb:1≤b):0≤Int.tmod a b∧Int.tmod a b<b:=by
 rw[Int.tmod_eq_emod_of_nonneg ha]
 exact⟨Int.emod_nonneg _ (by omega),Int.emod_lt_of_pos _ (by omega)⟩
theorem Un {p:Pln}:∀ n i:Nat,i<n→Dp p i+1≤Kn p n
 | n+1,i,h=>by
  show Dp p i+1≤max (Kn p n) (Dp p n+1)
  by_cases e:i=n
  ·subst e;omega
  ·have:=Un (p:=p) n i (by omega);omega
theorem Zb {p:Pln}{n:Nat} (h:∀ i:Nat,i<n→Dp p i≤1000):∀ k,k≤n→0≤Kn p k∧Kn p k≤1001
 | 0,_=>by show 0≤(0:Int)∧(0:Int)≤1001;omega
 | k+1,hk=>by
  have:=Zb h k (by omega)
  have:=h k (by omega)
  show 0≤max (Kn p k) (Dp p k+1)∧max (Kn p k) (Dp p k+1)≤1001
  omega
theorem W8 {t:Tgt}{p:Pln}{n:Nat}{v:List Int}{i:Nat} (hi:i<n):ele (Mq t p n v) (i:Int)=(ele v (i:Int) - Dp p i) % t.regs:=Fa hi
theorem Aga {l:Lp}{t:Tgt}{p:Pln} (h:LegalP l t p) {v:List Int}:S6 l t p (Mq t p l.body.length v):=by
 have ht:=h.tgt
 rw[Dj] at ht
 refine⟨h,by unfold Mq;simp,fun i hi=>?_⟩
 unfold Uk
 rw[W8 hi]
 exact⟨Int.emod_nonneg _ (by omega),Int.emod_lt_of_pos _ (by omega)⟩
section
variable {l : Lp} {t : Tgt} {p : Pln} {v : List Int}
def H6 (l:Lp) (t:Tgt) (p:Pln) (v:List Int):Krn:=Ad4 l t p (Mq t p l.body.length v)
theorem Ab9 {i:Nat} (hi:i<l.body.length):A8 (H6 l t p v) (Ea l.body.length) i=Abz l t p (Mq t p l.body.length v) i (A3 (ele l.body (i:Int))):=by
 unfold A8
 rw[Oa hi]
 exact Fa hi
theorem Aiu {i:Nat} (hi:i<l.body.length):ele (H6 l t p v).ops (i:Int)=Abz l t p (Mq t p l.body.length v) i (A3 (ele l.body (i:Int))):=Fa hi
theorem Ai4 (h:LegalP l t p) {i:Nat} (hi:i<l.body.length):Int.tmod (ele p.times (i:Int)) p.pace+p.pace * Dp p i=ele p.times (i:Int)∧Dp p i * p.pace+Int.tmod (ele p.times (i:Int)) p.pace=ele p.times (i:Int):=by
 have:=Int.tmod_add_mul_tdiv (ele p.times (i:Int)) p.pace
 unfold Dp
 refine⟨this,?_⟩
 rw[Int.mul_comm];omega
theorem ab_bd (h:LegalP l t p) {i:Nat} (us:List Rf) (ds:List Int):0≤(abV t p ds i us).1∧(abV t p ds i us).1<t.regs∧0≤(abV t p ds i us).2∧(abV t p ds i us).2<t.regs:=by
 have ht:=h.tgt
 rw[Dj] at ht
 have hr:∀ r,0≤Z5 t p ds i r∧Z5 t p ds i r<t.regs:=fun r=>⟨Int.emod_nonneg _ (by omega),Int.emod_lt_of_pos _ (by omega)⟩
 unfold abV
 split
 ·simp only;omega
 ·rename_i a
  have:=hr a
  simp only;omega
 ·rename_i a b _
  have:=hr a;have:=hr b
  simp only;omega
theorem Aeq (s:Stm):(Mn s.op<1→A3 s=[])∧(Mn s.op<2→(A3 s).length<2):=by
 unfold Mn A3
 by_cases h:s.op=4
 ·simp[h]
 ·by_cases h2:s.op>10
  ·simp[h,h2]
  ·simp[h,h2]
theorem Ao5 (hl:LoopOk l) {i:Nat} (hi:i<l.body.length) {o:Opr} (ho:Wi o (ele l.body (i:Int))):LoopOk (lpO l.logs o):=by
 have hs:=hl.stm i hi
 rw[show l.body.getD i Stm.zero=ele l.body (i:Int) from rfl] at hs
 obtain⟨o1,o2,o3,o4,o5⟩:=ho
 refine⟨hl.1,by show 1≤2;omega,by show 2≤16;omega,hl.2.2.2.1,fun j hj=>by
  have:(lpO l.logs o).outs.length=0:=rfl
  omega,fun j hj=>?_⟩
 have hj':j=0∨j=1:=by
  have:(lpO l.logs o).body.length=2:=rfl
  omega
 have hr:∀ k:Int,0<k→RefOk 2 k ⟨0,0⟩:=fun k hk=>⟨by show (0:Int)≤0;omega,by show (0:Int)≤3;omega,by show (0:Int)≤0;omega,fun _=>hk,fun hh=>absurd rfl hh⟩
 have hz:Rf.isZero ⟨0,0⟩:=⟨rfl,rfl⟩
 rcases hj' with rfl | rfl
 ·show O2 _ _ _ Afh
  refine⟨fun hh=>?_,fun hh=>?_,.inr (.inl ⟨rfl,rfl,⟨rfl,rfl,rfl⟩,hz,hz⟩)⟩
  ·rcases hh with hh | hh
   ·exact absurd hh (by decide)
   ·exact absurd hh (by decide)
  ·exact absurd hh (by decide)
 ·show O2 l.logs.length 2 1 (Eh o)
  refine⟨fun _=>hr _ (by omega),fun _=>hr _ (by omega),?_⟩
  have h3:=hs.2.2
  have q:(Eh o).op=(ele l.body (i:Int)).op∧(Eh o).ar=(ele l.body (i:Int)).ar∧(Eh o).sp=(ele l.body (i:Int)).sp∧(Eh o).pl=(ele l.body (i:Int)).pl∧(Eh o).n=(ele l.body (i:Int)).n:=⟨o1,o2,o3,o4,o5⟩
  obtain⟨p1,p2,p3,p4,p5⟩:=q
  unfold I1 Ha at *
  rw[p1,p2,p3,p4,p5]
  rcases h3 with h3 | h3 | h3 | h3 | h3
  ·exact .inl ⟨h3.1,h3.2.1,hz,hz⟩
  ·exact .inr (.inl ⟨h3.1,h3.2.1,h3.2.2.1,hz,hz⟩)
  ·exact .inr (.inr (.inl ⟨h3.1,h3.2.1,h3.2.2.1,hz,hz⟩))
  ·exact .inr (.inr (.inr (.inl ⟨h3.1,h3.2.1,h3.2.2.1,hz⟩)))
  ·exact .inr (.inr (.inr (.inr h3)))
theorem Ai9 {i:Nat}{ds:List Int}{us:List Rf}:Wi (Abz l t p ds i us) (ele l.body (i:Int)):=⟨rfl,rfl,rfl,rfl,rfl⟩
theorem Amv (h:LegalP l t p):KMayP t (H6 l t p v) l.logs:=by
 have hn:=h.loop.2.2.1
 have hn1:=h.loop.2.1
 have hp:=h.pace
 have hlen:(H6 l t p v).ops.length=l.body.length:=Aa3
 have hst:∀ i:Nat,i<l.body.length→Dp p i≤1000:=fun i hi=>(R4 hp (h.rng i hi)).2
 have hsl:=Zb hst l.body.length (Nat.le_refl _)
 have hsg:=Un (p:=p) l.body.length 0 (by omega)
 have hs0:=(R4 hp (h.rng 0 (by omega))).1
 have hE:=Aga h (v:=v)
 refine⟨h.tgt,hp,⟨by show 1≤Kn p l.body.length;have hs0':0≤Dp p (0:Nat):=hs0;omega,hsl.2⟩,by omega,fun i hi=>?_,fun i hi=>?_⟩
 ·have hi':i<l.body.length:=by omega
  rw[Aiu hi']
  have hs:=R4 hp (h.rng i hi')
  have hr:=h.rng i hi'
  unfold Pr at hr
  have hm:=Aj3 hr.1 hp.1
  have ht:=Ai4 h hi'
  have hg:=Un (p:=p) l.body.length i hi'
  have hd:=hE.2.2 i hi'
  unfold Uk at hd
  have hab:=ab_bd h (i:=i) (A3 (ele l.body (i:Int))) (Mq t p l.body.length v)
  have hu:=Aeq (ele l.body (i:Int))
  refine⟨⟨hm.1,hm.2,hs.1,by show Dp p i<Kn p l.body.length;omega,by show Dp p i * p.pace+Int.tmod (ele p.times (i:Int)) p.pace≤1000;rw[ht.2];omega⟩,⟨hd.1,hd.2,hab.1,hab.2.1,hab.2.2.1,hab.2.2.2,fun hh=>?_,fun hh=>?_⟩,Ao5 h.loop hi' Ai9⟩
  ·show (abV t p _ i (A3 (ele l.body (i:Int)))).1=0
   rw[hu.1 hh];rfl
  ·show (abV t p _ i (A3 (ele l.body (i:Int)))).2=0
   have:=hu.2 hh
   match A3 (ele l.body (i:Int)),this with
   | [],_=>rfl
   | [_],_=>rfl
 ·have hi':i<l.body.length:=by omega
  have hkey:∀ j,j<l.body.length→Lu (H6 l t p v) j=E9 l p j:=fun j hj=>by
   unfold Lu E9
   rw[Aiu hj];rfl
  rw[hkey i hi',hlen]
  have hc:Rj (H6 l t p v) l.body.length (E9 l p i)=Jn l p l.body.length (E9 l p i):=by
   unfold Rj Jn
   refine List.countP_congr fun j hj=>?_
   rw[hkey j (List.mem_range.1 hj)]
  rw[hc]
  exact h.units i hi'
theorem Amw (h:LegalP l t p):LayP l t (H6 l t p v) (Ea l.body.length):=by
 refine⟨h.loop,h.tgt,Amv h,Aa3,Kq _,fun s hs=>⟨?_,fun i hi=>?_,?_⟩⟩
 ·rw[Oa hs];omega
 ·rw[Oa hs,Oa (show i<l.body.length by omega)];omega
 ·rw[Ab9 hs];exact Ai9
theorem Ahk {x s c R:Int}:((x - s) % R+s - c) % R=(x - c) % R:=by
 have h:=Int.emod_add_mul_ediv (x - s) R
 rw[show (x - s) % R+s - c=(x - c) - R * ((x - s) / R) from by omega,Int.sub_mul_emod_self_left]
theorem R8 (h:LegalP l t p) {i:Nat} (hi:i<l.body.length) :
  ele (Ba l t (H6 l t p v) (Ea l.body.length)).time (i:Int)=ele p.times (i:Int)∧ele (Ba l t (H6 l t p v) (Ea l.body.length)).ready (i:Int)=ele p.times (i:Int)+Cn t (ele l.body (i:Int)).op ∧
  ele (Ba l t (H6 l t p v) (Ea l.body.length)).places (i:Int)=(ele v (i:Int) - Dp p i) % t.regs+Dp p i:=by
 have ht:=Ai4 h hi
 have e1:(Ls t (H6 l t p v) (Ea l.body.length) i).time=ele p.times (i:Int):=by
  show L9 _ (A8 _ _ i)=_
  rw[Ab9 hi]
  exact ht.1
 refine⟨(Fa hi).trans e1,(Fa hi).trans ?_,(Fa hi).trans ?_⟩
 ·show L9 _ (A8 _ _ i)+Cn t (A8 _ _ i).op=_
  rw[Ab9 hi]
  show Int.tmod (ele p.times (i:Int)) p.pace+p.pace * Dp p i+_=_
  rw[ht.1];rfl
 ·show (A8 _ _ i).dest+(A8 _ _ i).stage=_
  rw[Ab9 hi]
  show ele (Mq t p l.body.length v) (i:Int)+Dp p i=_
  rw[W8 hi]
theorem Aiw {i:Nat} (hi:i<l.body.length):ele ((H5 l t p).wp v).ready (i:Int)=ele p.times (i:Int)+Cn t (ele l.body (i:Int)).op:=Fa hi
theorem Zi (h:LegalP l t p) (hv:PlOk (H5 l t p) v) (hf:V9 ((H5 l t p).wp v)):TakesP l t (H6 l t p v) (Ea l.body.length):=by
 have hL:=Amw h (v:=v)
 have ht:=h.tgt
 rw[Dj] at ht
 refine⟨hL,fun e he=>?_,fun s hs i hi=>?_,fun a m ha hm=>?_,?_⟩
 ·have hin:=he.in h.loop
  have h2:=h.edge e he
  obtain⟨a,ha⟩:=Int.eq_ofNat_of_zero_le hin.to.1
  obtain⟨b,hb⟩:=Int.eq_ofNat_of_zero_le hin.fr.1
  unfold P7
  unfold Vd at h2
  have ha':a<l.body.length:=by have:=hin.to.2;omega
  have hb':b<l.body.length:=by have:=hin.fr.2;omega
  rw[ha,hb] at h2 ⊢
  rw[(R8 h ha').1,(R8 h hb').1]
  exact h2
 ·have hu:=Qv hL s hs _ (Cv hi)
  obtain⟨a,ha⟩:=Int.eq_ofNat_of_zero_le hu.1
  have ha':a<l.body.length:=by have:=hu.2.1;omega
  unfold Vb
  rw[ha,(R8 h ha').2.2,Ab9 hs]
  have hr:Z5 t p (Mq t p l.body.length v) s (ele (A3 (ele l.body (s:Int))) (i:Int))=((ele v (a:Int) - Dp p a) % t.regs+Dp p a - (ele (A3 (ele l.body (s:Int))) (i:Int)).bk - Dp p s) % t.regs:=by
   unfold Z5
   rw[ha,W8 ha']
  rw[show (Abz l t p (Mq t p l.body.length v) s (A3 (ele l.body (s:Int)))).stage=Dp p s from rfl,←hr]
  have hlen:=J7 (ele l.body (s:Int))
  show Afj ⟨_,_,_,_,(abV t p _ s (A3 (ele l.body (s:Int)))).1,(abV t p _ s (A3 (ele l.body (s:Int)))).2,_,_,_,_⟩ i=_
  generalize A3 (ele l.body (s:Int))=us at *
  match us,hlen,hi with
  | [x],_,hi =>
   have:i=0:=by simp at hi;omega
   subst this;rfl
  | [x,z],_,hi =>
   have:i=0∨i=1:=by simp at hi;omega
   rcases this with rfl | rfl <;> rfl
 ·intro j hj hz hb
  have ea:=R8 h (v:=v) ha;have em:=R8 h (v:=v) hm
  refine hf.1 a m ha hm j hj ?_ ?_
  ·show (ele v (m:Int)+j - ele v (a:Int)) % t.regs=0
   have hz':(((ele v (m:Int) - Dp p m) % t.regs+Dp p m)+j - ((ele v (a:Int) - Dp p a) % t.regs+Dp p a)) % t.regs=0:=by
    rw[←ea.2.2,←em.2.2];exact hz
   have h1:=Int.emod_add_mul_ediv (ele v (a:Int) - Dp p a) t.regs
   have h2:=Int.emod_add_mul_ediv (ele v (m:Int) - Dp p m) t.regs
   rw[show ele v (m:Int)+j - ele v (a:Int)=(((ele v (m:Int) - Dp p m) % t.regs+Dp p m)+j - ((ele v (a:Int) - Dp p a) % t.regs+Dp p a)) - t.regs * ((ele v (a:Int) - Dp p a) / t.regs - (ele v (m:Int) - Dp p m) / t.regs) from by rw[Int.mul_sub];omega,Int.sub_mul_emod_self_left]
   exact hz'
  ·have ra:ele ((H5 l t p).wp v).ready (a:Int)=ele (Ba l t (H6 l t p v) (Ea l.body.length)).ready (a:Int):=(Aiw ha).trans ea.2.1.symm
   have rm:ele ((H5 l t p).wp v).ready (m:Int)=ele (Ba l t (H6 l t p v) (Ea l.body.length)).ready (m:Int):=(Aiw hm).trans em.2.1.symm
   rcases hb with ⟨k,r,q1,q2,q3,q4⟩ | ⟨q1,q2,q3⟩
   ·refine .inl ⟨k,r,q1,q2,q3,?_⟩
    rw[ra,rm,show ele ((H5 l t p).wp v).time (k:Int)=ele (Ba l t (H6 l t p v) (Ea l.body.length)).time (k:Int) from (R8 h q1).1.symm]
    exact q4
   ·refine .inr ⟨q1,?_,q3⟩
    rw[ra,rm];exact q2
 ·have hfi:=hf.2
  have e:K1 (Ba l t (H6 l t p v) (Ea l.body.length)) (Ea l.body.length)=K1 ((H5 l t p).wp v) (Ea l.body.length):=by
   unfold K1
   refine congrArg List.flatten (List.map_congr_left fun a ha=>?_)
   have hb:=Tl ha
   obtain⟨i,hi⟩:=Int.eq_ofNat_of_zero_le hb.1
   subst hi
   refine Gy fun q hq=>?_
   unfold Iy
   rw[(R8 h (v:=v) (show i<l.body.length by omega)).2.2]
   show ((ele v (i:Int) - Dp p i) % t.regs+Dp p i - (q:Int) - 1) % t.regs=(ele v (i:Int) - (q:Int) - 1) % t.regs
   rw[show (ele v (i:Int) - Dp p i) % t.regs+Dp p i - (q:Int) - 1=(ele v (i:Int) - Dp p i) % t.regs+Dp p i - ((q:Int)+1) from by omega,Ahk]
   rw[show ele v (i:Int) - ((q:Int)+1)=ele v (i:Int) - (q:Int) - 1 from by omega]
  unfold Kp
  rw[e]
  exact hfi
end
theorem Y4 {t:Tgt} (ht:Cu t=true) (op:Int):1≤Cn t op∧Cn t op≤6:=by
 unfold Cn
 rw[if_pos ht]
 rw[Dj] at ht
 exact S8 (by omega) (by omega) (by omega)
def Aok (l:Lp) (t:Tgt) (p:Pln):Prop:=∀ i:Nat,i<l.body.length→ele p.times (i:Int)+Cn t (ele l.body (i:Int)).op≤p.pace
theorem Adn {l:Lp}{t:Tgt}{p:Pln} (h:LegalP l t p) (hr:5 * (l.body.length:Int)≤t.regs) (ho:Aok l t p):∀ k,k<l.body.length→Pm ((H5 l t p).wp (spV l.body.length)) k:=by
 have hn:=h.loop.2.2.1
 have hp:=h.pace
 have hy:((H5 l t p).wp (spV l.body.length)).Ok:=(Aa2 h).1.wp (Ab7 (Aa2 h).1)
 have hsp:∀ i:Nat,i<l.body.length→ele ((H5 l t p).wp (spV l.body.length)).places (i:Int)=5 * (i:Int):=fun i hi=>Fa hi
 have hrd:∀ i:Nat,i<l.body.length→1≤ele ((H5 l t p).wp (spV l.body.length)).ready (i:Int)∧ele ((H5 l t p).wp (spV l.body.length)).ready (i:Int)≤p.pace:=fun i hi=>by
  rw[Aiw hi]
  have h1:=h.rng i hi
  have hw:=Y4 h.tgt (ele l.body (i:Int)).op
  unfold Pr at h1
  have:=ho i hi
  omega
 have htm:∀ i:Nat,i<l.body.length→ele ((H5 l t p).wp (spV l.body.length)).time (i:Int)<p.pace:=fun i hi=>by
  have hw:=Y4 h.tgt (ele l.body (i:Int)).op
  have:=ho i hi
  show ele p.times (i:Int)<p.pace
  omega
 have hap:∀ a m:Nat,a<l.body.length→m<l.body.length→Jm ((H5 l t p).wp (spV l.body.length)) a m:=fun a m ha hm j hj hz hb=>by
  have ra:=hrd a ha;have rm:=hrd m hm
  rw[hsp a ha,hsp m hm,show ((H5 l t p).wp (spV l.body.length)).regs=t.regs from rfl] at hz
  have hpe:((H5 l t p).wp (spV l.body.length)).pace=p.pace:=rfl
  have hlow:-p.pace<j * p.pace→0≤j:=fun hl=>by
   by_cases c:j<0
   ·have:=Int.mul_le_mul_of_nonneg_right (show j≤-1 by omega) (show 0≤p.pace by omega)
    omega
   ·omega
  have hup:j * p.pace<4 * p.pace→j≤3:=fun hu=>by
   by_cases c:4≤j
   ·have:=Int.mul_le_mul_of_nonneg_right c (show 0≤p.pace by omega)
    omega
   ·omega
  have hj03:0≤j∧j≤3:=by
   rcases hb with ⟨k,r,q1,q2,q3,q4⟩ | ⟨q1,q2,q3⟩
   ·have hu:=hy.us k q1 r q2
    have htk:=htm k q1
    rw[hpe] at q4
    have m1:=Int.mul_le_mul_of_nonneg_right (show r.bk≤3 by omega) (show 0≤p.pace by omega)
    rcases q4 with ⟨n1,n2⟩ | ⟨n1,n2,n3⟩
    ·exact⟨hlow (by omega),hup (by omega)⟩
    ·exact⟨by omega,hup (by omega)⟩
   ·rw[hpe] at q2
    exact⟨hlow (by omega),by omega⟩
  obtain⟨z,hz'⟩:=Int.dvd_of_emod_eq_zero hz
  have hz0:z=0:=by
   by_cases c1:1≤z
   ·have:=Int.mul_le_mul_of_nonneg_left c1 (show 0≤t.regs by omega)
    omega
   ·by_cases c2:z≤-1
    ·have:=Int.mul_le_mul_of_nonneg_left c2 (show 0≤t.regs by omega)
     omega
    ·omega
  rw[hz0,Int.mul_zero] at hz'
  rcases hj with hj | hj <;> omega
 intro k hk
 refine⟨fun m hm=>⟨hap k m hk (by omega),hap m k (by omega) hk⟩,(Xr _).2 fun s hs q hq hmem=>?_⟩
 have hfar:0≤Lv ((H5 l t p).wp (spV l.body.length)).body (s:Int)∧Lv ((H5 l t p).wp (spV l.body.length)).body (s:Int)≤3:=Aam hy (s:Int)
 have hreg:∀ s q:Nat,s<l.body.length→Iy ((H5 l t p).wp (spV l.body.length)) s q=(5 * (s:Int) - q - 1) % t.regs:=fun s q hs=>by
  unfold Iy
  rw[hsp s hs];rfl
 have hne:∀ s' q':Nat,s'<k+1→q'<3→(s'≠s∨q'≠q)→Iy ((H5 l t p).wp (spV l.body.length)) s' q'≠Iy ((H5 l t p).wp (spV l.body.length)) s q:=fun s' q' hs' hq' hd he=>by
  rw[hreg s' q' (by omega),hreg s q (by omega)] at he
  have h1:=Int.emod_add_mul_ediv (5 * (s':Int) - q' - 1) t.regs
  have h2:=Int.emod_add_mul_ediv (5 * (s:Int) - q - 1) t.regs
  rw[he] at h1
  have e:5 * (s':Int) - q' - 1 - (5 * (s:Int) - q - 1)=t.regs * ((5 * (s':Int) - q' - 1) / t.regs - (5 * (s:Int) - q - 1) / t.regs):=by rw[Int.mul_sub];omega
  generalize (5 * (s':Int) - q' - 1) / t.regs - (5 * (s:Int) - q - 1) / t.regs=z at e
  have hz0:z=0:=by
   by_cases c1:1≤z
   ·have:=Int.mul_le_mul_of_nonneg_left c1 (show 0≤t.regs by omega)
    omega
   ·by_cases c2:z≤-1
    ·have:=Int.mul_le_mul_of_nonneg_left c2 (show 0≤t.regs by omega)
     omega
    ·omega
  rw[hz0,Int.mul_zero] at e
  rcases hd with hd | hd <;> omega
 rcases List.mem_append.1 hmem with hm | hm
 ·unfold K1 at hm
  rw[List.mem_flatMap] at hm
  obtain⟨a,ha,hb⟩:=hm
  have hab:=Tl ha
  obtain⟨s',hs'⟩:=Int.eq_ofNat_of_zero_le hab.1
  subst hs'
  unfold frA at hb
  rw[List.mem_map] at hb
  obtain⟨q',hq',he⟩:=hb
  have hf':0≤Lv ((H5 l t p).wp (spV l.body.length)).body (s':Int)∧Lv ((H5 l t p).wp (spV l.body.length)).body (s':Int)≤3:=Aam hy (s':Int)
  have:=List.mem_range.1 hq'
  exact hne s' q' (by omega) (by omega) (.inl (by omega)) he
 ·unfold frA at hm
  rw[List.mem_map] at hm
  obtain⟨q',hq',he⟩:=hm
  have:=List.mem_range.1 hq'
  exact hne s q' hs (by omega) (.inr (by omega)) he
theorem Akt {l:Lp} (hf:l.Fine) {o:Opr} (ho:InR o.op∧InR o.ar∧InR o.sp∧InR o.pl∧InR o.n):(lpO l.logs o).Fine:=by
 have h0:InR 0:=by unfold InR;omega
 have h2:InR 2:=by unfold InR;omega
 refine⟨hf.rlogs,fun u hu=>?_,fun u hu=>(by cases hu),hf.llogs,by show 2≤maxLen;rw[F4];omega,by show 0≤maxLen;omega⟩
 have hu':u=Afh∨u=Eh o:=by
  rcases List.mem_cons.1 hu with h | h
  ·exact .inl h
  ·exact .inr (List.mem_singleton.1 h)
 rcases hu' with rfl | rfl
 ·exact⟨h2,h0,h0,h0,h0,h0,h0,h0,h0⟩
 ·exact⟨ho.1,h0,h0,h0,h0,ho.2.1,ho.2.2.1,ho.2.2.2.1,ho.2.2.2.2⟩
theorem Zj {l:Lp} (hf:l.Fine) {t:Tgt}{p:Pln}{v:List Int}:Vc l (H6 l t p v):=fun i hi=>by
 have hi':i<l.body.length:=by rw[show (H6 l t p v).ops.length=l.body.length from Aa3] at hi;exact hi
 rw[Aiu hi']
 have hs:=hf.rbody _ (Cv hi')
 obtain⟨s1,_,_,_,_,s2,s3,s4,s5⟩:=hs
 exact Akt hf ⟨s1,s2,s3,s4,s5⟩
noncomputable def Ht (o:Opr):Option (Stm) :=
 some (Stm.mk o.op (Rf.mk 0 0) (Rf.mk 0 0) o.ar o.sp o.pl o.n)
noncomputable def Ed (k_:Krn) (o:Opr):Option (Int) :=
 ck (IR (o.stage * k_.pace)) <|
 ck (IR ((o.stage * k_.pace)+o.slot)) <|
 some ((o.stage * k_.pace)+o.slot)
noncomputable def It (r_ from_ n:Int) (t:Tgt):Option (Bool) :=
 some ((r_==0) || (((decide (n>from_))&&(decide (r_>0)))&&(decide (r_<t.regs))))
noncomputable def Lz (t:Tgt) (k_:Krn) (o:Opr) (logs:List Int):Option (Bool) :=
 bd (Ht o) fun x4 =>
 bd (Dh x4) fun x8 =>
 bd (show Option (Out (Int×Int×Int×Int) (Empty)) from br (decide ((ln x8)>0)) (
 some (.go (0,0,0,0))) (
 some (.go (x4.a.st,x4.a.bk,x4.b.st,x4.b.bk)))) fun o13=>o13.on (fun (b7c1_1,b7c2_1,b7c3_1,b7c4_1) =>
 bdG ((((decide (o.slot≥0))&&(decide (o.slot<k_.pace)))&&(decide (o.stage≥0)))&&(decide (o.stage<k_.stages))) (Ed k_ o) fun x18 =>
 bdG (((((decide (o.slot≥0))&&(decide (o.slot<k_.pace)))&&(decide (o.stage≥0)))&&(decide (o.stage<k_.stages)))&&(decide (x18≤1000))) (Gl (Lp.mk logs [(Stm.mk 1 (Rf.mk 0 0) (Rf.mk 0 0) 0 0 0 0),(Stm.mk x4.op (Rf.mk b7c1_1 b7c2_1) (Rf.mk b7c3_1 b7c4_1) x4.ar x4.sp x4.pl x4.n)] [])) fun x21 =>
 bdG ((((((((decide (o.slot≥0))&&(decide (o.slot<k_.pace)))&&(decide (o.stage≥0)))&&(decide (o.stage<k_.stages)))&&(decide (x18≤1000)))&&x21)&&(decide (o.dest≥0)))&&(decide (o.dest<t.regs))) (It o.a 0 (ln x8) t) fun x24 =>
 bdG (((((((((decide (o.slot≥0))&&(decide (o.slot<k_.pace)))&&(decide (o.stage≥0)))&&(decide (o.stage<k_.stages)))&&(decide (x18≤1000)))&&x21)&&(decide (o.dest≥0)))&&(decide (o.dest<t.regs)))&&x24) (It o.b 1 (ln x8) t) fun x27 =>
 some ((((((((((decide (o.slot≥0))&&(decide (o.slot<k_.pace)))&&(decide (o.stage≥0)))&&(decide (o.stage<k_.stages)))&&(decide (x18≤1000)))&&x21)&&(decide (o.dest≥0)))&&(decide (o.dest<t.regs)))&&x24)&&x27)) (fun r=>r.elim)
noncomputable def Hu (t:Tgt) (k_:Krn) (logs:List Int):((List ((Int×Int)×Int))×Int)→Option (Stp ((List ((Int×Int)×Int))×Int) (Bool)):=fun (m9n_1,x50_1) =>
 br (decide (x50_1<(ln k_.ops))) (
 ck (IX x50_1 (ln k_.ops)) <|
 bd (Lz t k_ (ele k_.ops x50_1) logs) fun x22 =>
 br (!x22) (
 some (.ret false)) (
 bd (Dg ((ele k_.ops x50_1).op)) fun x28 =>
 ck (IR ((Dm m9n_1 ((ele k_.ops x50_1).slot,x28) 0)+1)) <|
 ck (IX x28 3) <|
 br (decide ((Dm (Es m9n_1 ((ele k_.ops x50_1).slot,x28) ((Dm m9n_1 ((ele k_.ops x50_1).slot,x28) 0)+1)) ((ele k_.ops x50_1).slot,x28) 0)>(Bi t.u0 t.u1 t.u2 x28))) (
 some (.ret false)) (
 ck (IR (x50_1+1)) <|
 some (.next ((Es m9n_1 ((ele k_.ops x50_1).slot,x28) ((Dm m9n_1 ((ele k_.ops x50_1).slot,x28) 0)+1)),(x50_1+1)))))) (
 some (.brk (m9n_1,x50_1)))
noncomputable def Hh (t:Tgt) (k_:Krn) (logs:List Int):Option (Bool) :=
 bd (Gc t) fun x3 =>
 br (((((((!x3) || (decide (k_.pace<1))) || (decide (k_.pace>200))) || (decide (k_.stages<1))) || (decide (k_.stages>1001))) || (decide ((ln k_.ops)<1))) || (decide ((ln k_.ops)>16))) (
 some false) (
 bd (lp (Hu t k_ logs) (([]:List ((Int×Int)×Int)),0)) fun o10=>o10.on (fun (m9n_1,x50_1) =>
 some true) (fun r=>some r))
def lpC (logs:List Int) (o:Opr):Lp:=⟨logs,[⟨1,⟨0,0⟩,⟨0,0⟩,0,0,0,0⟩,Eh o],[]⟩
theorem Amp {logs:List Int}{o:Opr}:LoopOk (lpC logs o)↔LoopOk (lpO logs o):=by
 have hz:Rf.isZero ⟨0,0⟩:=⟨rfl,rfl⟩
 have key:∀ s s':Stm,(O2 logs.length 2 0 s')→LoopOk ⟨logs,[s,Eh o],[]⟩→LoopOk ⟨logs,[s',Eh o],[]⟩:=fun s s' hs h=>by
  refine⟨h.1,h.2.1,h.2.2.1,h.2.2.2.1,h.2.2.2.2.1,fun j hj=>?_⟩
  have hj':j=0∨j=1:=by
   have:(Lp.mk logs [s',Eh o] []).body.length=2:=rfl
   omega
  rcases hj' with rfl | rfl
  ·exact hs
  ·exact h.2.2.2.2.2 1 (by show (1:Int)<2;omega)
 refine⟨fun h=>key _ _ ?_ h,fun h=>key _ _ ?_ h⟩
 ·refine⟨fun hh=>?_,fun hh=>absurd hh (by decide),.inr (.inl ⟨rfl,rfl,⟨rfl,rfl,rfl⟩,hz,hz⟩)⟩
  rcases hh with hh | hh <;> exact absurd hh (by decide)
 ·refine⟨fun hh=>?_,fun hh=>absurd hh (by decide),.inl ⟨rfl,⟨rfl,rfl,rfl⟩,hz,hz⟩⟩
  rcases hh with hh | hh <;> exact absurd hh (by decide)
theorem Al1 (o:Opr):((A3 (Eh o)).length:Int)=Mn o.op:=by
 unfold A3 Mn
 rw[show (Eh o).op=o.op from rfl]
 by_cases h:o.op=4
 ·rw[if_pos h,if_pos h];rfl
 ·by_cases h2:o.op>10
  ·rw[if_neg h,if_pos h2,if_neg h,if_pos h2];rfl
  ·rw[if_neg h,if_neg h2,if_neg h,if_neg h2];rfl
theorem Aku {logs:List Int}{o:Opr} (h:(lpO logs o).Fine):(lpC logs o).Fine:=by
 have h0:InR 0:=by unfold InR;omega
 have h1:InR 1:=by unfold InR;omega
 refine⟨h.rlogs,fun u hu=>?_,h.routs,h.llogs,h.lbody,h.louts⟩
 rcases List.mem_cons.1 hu with rfl | hu
 ·exact⟨h1,h0,h0,h0,h0,h0,h0,h0,h0⟩
 ·exact h.rbody u (by rw[List.mem_singleton] at hu;subst hu;show Eh o∈[Afh,Eh o];simp)
theorem kop_s {t:Tgt} (ht:Cu t=true) {k:Krn}{o:Opr}{logs:List Int} (hp:1≤k.pace∧k.pace≤200) (hs:1≤k.stages∧k.stages≤1001) (hf:(lpO logs o).Fine):Lz t k o logs=some (tb (Oz t k o logs)):=by
 rw[Dj] at ht
 have hst:Ht o=some (Eh o):=rfl
 have hu:Dh (Eh o)=some (A3 (Eh o)):=Sf _
 have hun:=Al1 o
 have hmay:Gl (lpC logs o)=some (tb (LoopOk (lpO logs o))):=by
  rw[Wj _ (Aku hf)]
  congr 1
  exact E7 Amp
 unfold Lz
 rw[hst,bd_ret,hu,bd_ret]
 have hsel:(show Option (Out (Int×Int×Int×Int) (Empty)) from br (decide ((ln (A3 (Eh o)))>0)) (some (.go (0,0,0,0))) (some (.go ((Eh o).a.st,(Eh o).a.bk,(Eh o).b.st,(Eh o).b.bk))))=some (.go (0,0,0,0)):=by
  by_cases c:ln (A3 (Eh o))>0
  ·rw[decide_eq_true c];rfl
  ·rw[decide_eq_false c];rfl
 rw[hsel,bd_ret,Out.on_go]
 simp only
 rw[show (Lp.mk logs [(Stm.mk 1 (Rf.mk 0 0) (Rf.mk 0 0) 0 0 0 0),(Stm.mk (Eh o).op (Rf.mk 0 0) (Rf.mk 0 0) (Eh o).ar (Eh o).sp (Eh o).pl (Eh o).n)] [])=lpC logs o from rfl]
 by_cases h1:0≤o.slot∧o.slot<k.pace∧0≤o.stage∧o.stage<k.stages
 ·have m1:=Ms (a:=o.stage) (A:=1001) (b:=k.pace) (B:=200) (by omega) (by omega) (by omega) (by omega)
  have htm:Ed k o=some (o.stage * k.pace+o.slot):=by
   unfold Ed
   rw[Aj (by omega) (by omega),Aj (by omega) (by omega)]
  have hc:((((decide (o.slot≥0))&&(decide (o.slot<k.pace)))&&(decide (o.stage≥0)))&&(decide (o.stage<k.stages)))=true:=by
   simp only[Bool.and_eq_true,decide_eq_true_eq];omega
  rw[hc,htm,bdG_t,bd_ret,Bool.true_and]
  by_cases h2:o.stage * k.pace+o.slot≤1000
  ·rw[decide_eq_true h2,bdG_t,hmay,bd_ret,Bool.true_and]
   by_cases h3:LoopOk (lpO logs o)
   ·rw[Cc h3,Bool.true_and]
    by_cases h4:0≤o.dest∧o.dest<t.regs
    ·rw[show (decide (o.dest≥0)&&decide (o.dest<t.regs))=true from by simp only[Bool.and_eq_true,decide_eq_true_eq];omega,bdG_t]
     unfold It
     rw[bd_ret,Ka,Bool.true_and]
     have ha:((o.a==0) || (((decide (ln (A3 (Eh o))>0))&&(decide (o.a>0)))&&(decide (o.a<t.regs))))=tb (o.a=0∨(0<Mn o.op∧0<o.a∧o.a<t.regs)):=H7 (by unfold ln;rw[hun];simp[and_assoc])
     have hb:((o.b==0) || (((decide (ln (A3 (Eh o))>1))&&(decide (o.b>0)))&&(decide (o.b<t.regs))))=tb (o.b=0∨(1<Mn o.op∧0<o.b∧o.b<t.regs)):=H7 (by unfold ln;rw[hun];simp[and_assoc])
     rw[ha,hb]
     have hN:Aek t o↔(o.a=0∨(0<Mn o.op∧0<o.a∧o.a<t.regs))∧(o.b=0∨(1<Mn o.op∧0<o.b∧o.b<t.regs)):=by
      unfold Aek
      constructor
      ·rintro ⟨a1,a2,a3,a4,a5,a6,a7,a8⟩
       refine⟨?_,?_⟩
       ·by_cases c:o.a=0
        ·exact .inl c
        ·exact .inr ⟨by have:¬Mn o.op<1:=fun hh=>c (a7 hh);omega,by omega,a4⟩
       ·by_cases c:o.b=0
        ·exact .inl c
        ·exact .inr ⟨by have:¬Mn o.op<2:=fun hh=>c (a8 hh);omega,by omega,a6⟩
      ·rintro ⟨b1,b2⟩
       refine⟨h4.1,h4.2,?_,?_,?_,?_,fun hh=>?_,fun hh=>?_⟩
       all_goals first | omega | (rcases b1 with b1 | b1 <;> rcases b2 with b2 | b2 <;> omega)
     by_cases h5:(o.a=0∨(0<Mn o.op∧0<o.a∧o.a<t.regs))
     ·by_cases h6:(o.b=0∨(1<Mn o.op∧0<o.b∧o.b<t.regs))
      ·rw[Cc h5,Cc h6,Cc (p:=Oz t k o logs) ⟨⟨h1.1,h1.2.1,h1.2.2.1,h1.2.2.2,h2⟩,hN.2 ⟨h5,h6⟩,h3⟩];rfl
      ·rw[Cc h5,B0 h6,B0 fun hh:Oz t k o logs=>h6 (hN.1 hh.2.1).2];rfl
     ·rw[B0 h5,B0 fun hh:Oz t k o logs=>h5 (hN.1 hh.2.1).1];rfl
    ·have hd:(decide (o.dest≥0)&&decide (o.dest<t.regs))=false:=by
      rw[Bool.and_eq_false_iff,decide_eq_false_iff_not,decide_eq_false_iff_not];omega
     rw[hd,B0 fun hh:Oz t k o logs=>h4 ⟨hh.2.1.1,hh.2.1.2.1⟩];rfl
   ·rw[B0 h3,B0 fun hh:Oz t k o logs=>h3 hh.2.2];rfl
  ·rw[decide_eq_false h2,B0 fun hh:Oz t k o logs=>h2 hh.1.2.2.2.2];rfl
 ·have hc:((((decide (o.slot≥0))&&(decide (o.slot<k.pace)))&&(decide (o.stage≥0)))&&(decide (o.stage<k.stages)))=false:=by
   cases hh:((((decide (o.slot≥0))&&(decide (o.slot<k.pace)))&&(decide (o.stage≥0)))&&(decide (o.stage<k.stages))) with
   | false=>rfl
   | true =>
    simp only[Bool.and_eq_true,decide_eq_true_eq] at hh
    exact absurd ⟨hh.1.1.1,hh.1.1.2,hh.1.2,hh.2⟩ h1
  rw[hc,B0 fun hh:Oz t k o logs=>h1 ⟨hh.1.1,hh.1.2.1,hh.1.2.2.1,hh.1.2.2.2.1⟩]
  rfl
theorem Adi {t : Tgt} (ht : Cu t = true) {k : Krn} {n : Nat} : (∀ i, i < n → (Rj k (i + 1) (Lu k i) : Int) ≤ Dt t (Lu k i).2) ↔ (∀ i, i < n → (Rj k n (Lu k i) : Int) ≤ Dt t (Lu k i).2) := by
  have mono : ∀ (κ : Int × Int) i j, i ≤ j → Rj k i κ ≤ Rj k j κ := fun κ i j h => by
    induction j with
    | zero => have : i = 0 := by omega
              subst this; exact Nat.le_refl _
    | succ j ih =>
      by_cases e : i = j + 1
      · subst e; exact Nat.le_refl _
      · rw [Ol]; have := ih (by omega); omega
  constructor
  · intro h
    have key : ∀ m, m ≤ n → ∀ κ, (Rj k m κ : Int) ≤ Dt t κ.2 := by
      intro m
      induction m with
      | zero => intro _ κ; have := (N8 ht κ.2).1; show ((0 : Nat) : Int) ≤ _; omega
      | succ m ih =>
        intro hm κ
        by_cases e : Lu k m = κ
        · have := h m (by omega); rw [e] at this; exact this
        · rw [Ol, if_neg e]; exact ih (by omega) κ
    exact fun i _ => key n (Nat.le_refl _) _
  · intro h i hi
    have := h i hi
    have := mono (Lu k i) (i + 1) n hi
    omega
theorem Ajc {t:Tgt}{k:Krn}{logs:List Int} (hf:∀ i:Nat,i<k.ops.length→(lpO logs (ele k.ops (i:Int))).Fine):Hh t k logs=some (tb (KMayP t k logs)):=by
 unfold Hh
 rw[I6,bd_ret]
 by_cases h:Cu t=true∧(1≤k.pace∧k.pace≤200)∧(1≤k.stages∧k.stages≤1001)∧(1≤k.ops.length∧k.ops.length≤16)
 ·obtain⟨h1,h2,h3,h4⟩:=h
  rw[show (((((((!Cu t) || (decide (k.pace<1))) || (decide (k.pace>200))) || (decide (k.stages<1))) || (decide (k.stages>1001))) || (decide ((ln k.ops)<1))) || (decide ((ln k.ops)>16)))=false from by rw[h1];unfold ln;simp;omega,br_false]
  rcases Aae (f:=Hu t k logs) (n:=k.ops.length) (r0:=false) (fun i=>Oz t k (ele k.ops (i:Int)) logs∧(Rj k (i+1) (Lu k i):Int)≤Dt t (Lu k i).2) (fun i m=>∀ κ,Dm m κ 0=(Rj k i κ:Int)) (fun i g hi hg=>by
    have hc:=Fp (ele k.ops (i:Int)).op
    have hcl:=Age k (Lu k i) i
    have hk:((ele k.ops (i:Int)).slot,Fl (ele k.ops (i:Int)).op)=Lu k i:=rfl
    have hmg:=hg (Lu k i)
    have hnew:Dm (Es g (Lu k i) (Dm g (Lu k i) 0+1)) (Lu k i) 0=(Rj k (i+1) (Lu k i):Int):=by rw[J8,if_pos rfl,hmg,Ol,if_pos rfl];rfl
    have hun:Bi t.u0 t.u1 t.u2 (Fl (ele k.ops (i:Int)).op)=Dt t (Lu k i).2:=rfl
    unfold Hu
    simp only
    rw[Bu (by unfold ln;omega),Av (by omega) (by unfold ln;omega),kop_s h1 h2 h3 (hf i hi),bd_ret]
    by_cases h5:Oz t k (ele k.ops (i:Int)) logs
    ·rw[Cc h5,Bool.not_true,br_false,Kf,bd_ret,hk,Aj (by omega) (by omega),Av hc.1 hc.2,hnew,hun]
     by_cases h6:(Rj k (i+1) (Lu k i):Int)>Dt t (Lu k i).2
     ·rw[Bu h6];exact .inr ⟨fun h=>by omega,rfl⟩
     ·rw[Bt h6,Aj (by omega) (by omega)]
      refine .inl ⟨⟨h5,by omega⟩,_,rfl,fun κ=>?_⟩
      rw[J8,Ol]
      by_cases hq:Lu k i=κ
      ·rw[if_pos hq,if_pos hq,hmg,hq];rfl
      ·rw[if_neg hq,if_neg hq,hg];rfl
    ·rw[B0 h5]
     exact .inr ⟨fun h=>h5 h.1,rfl⟩) (fun g=>by unfold Hu;exact Bt (by unfold ln;omega)) [] (fun κ=>rfl) with ⟨q1,m,e,_⟩ | ⟨q1,e⟩
  ·rw[e,bd_ret,Out.on_go,Cc (p:=KMayP t k logs) ⟨h1,h2,h3,h4,fun i hi=>(q1 i hi).1,(Adi h1).1 fun i hi=>(q1 i hi).2⟩]
  ·rw[e,bd_ret,Out.on_ret,B0 fun h:KMayP t k logs=>q1 fun i hi=>⟨h.one i hi,(Adi h1).2 h.units i hi⟩]
 ·rw[B0 fun hk:KMayP t k logs=>h ⟨hk.tgt,hk.pace,hk.stages,hk.n⟩]
  have hc:(((((((!Cu t) || (decide (k.pace<1))) || (decide (k.pace>200))) || (decide (k.stages<1))) || (decide (k.stages>1001))) || (decide ((ln k.ops)<1))) || (decide ((ln k.ops)>16)))=true:=by
   cases hh:(((((((!Cu t) || (decide (k.pace<1))) || (decide (k.pace>200))) || (decide (k.stages<1))) || (decide (k.stages>1001))) || (decide ((ln k.ops)<1))) || (decide ((ln k.ops)>16))) with
   | true=>rfl
   | false =>
    unfold ln at hh
    simp only[Bool.or_eq_false_iff,Bool.not_eq_false',decide_eq_false_iff_not] at hh
    obtain⟨⟨⟨⟨⟨⟨a1,a2⟩,a3⟩,a4⟩,a5⟩,a6⟩,a7⟩:=hh
    exact absurd ⟨a1,⟨by omega,by omega⟩,⟨by omega,by omega⟩,by omega,by omega⟩ h
  rw[hc];rfl
noncomputable def Ct (l:Lp) (t:Tgt) (k_:Krn) (order:List Int):((List Int)×(List Int)×(List Int)×(List (Int×Bool))×Int)→Option (Stp ((List Int)×(List Int)×(List Int)×(List (Int×Bool))×Int) (Option L5×Bool)):=fun (v17_1,v16_1,v15_1,m14n_1,x54_1) =>
 br (decide (x54_1<(ln order))) (
 ck (IX x54_1 (ln order)) <|
 br (((decide ((ele order x54_1)<0)) || (decide ((ele order x54_1)≥(ln k_.ops)))) || (Dm m14n_1 (ele order x54_1) false)) (
 some (.ret (none,false))) (
 ck (IX (ele order x54_1) (ln k_.ops)) <|
 ck (IX x54_1 (ln l.body)) <|
 bd (Ht (ele k_.ops (ele order x54_1))) fun x42 =>
 br (!([x42.op,x42.a.st,x42.a.bk,x42.b.st,x42.b.bk,x42.ar,x42.sp,x42.pl,x42.n]==[(ele l.body x54_1).op,0,0,0,0,(ele l.body x54_1).ar,(ele l.body x54_1).sp,(ele l.body x54_1).pl,(ele l.body x54_1).n])) (
 some (.ret (none,false))) (
 bd (Ed k_ (ele k_.ops (ele order x54_1))) fun x48 =>
 ck (AL (v15_1++[x48]).length 8) <|
 bd (Ed k_ (ele k_.ops (ele order x54_1))) fun x56 =>
 bd (Ec t ((ele k_.ops (ele order x54_1)).op)) fun x59 =>
 ck (IR (x56+x59)) <|
 ck (AL (v16_1++[(x56+x59)]).length 8) <|
 ck (IR ((ele k_.ops (ele order x54_1)).dest+(ele k_.ops (ele order x54_1)).stage)) <|
 ck (AL (v17_1++[((ele k_.ops (ele order x54_1)).dest+(ele k_.ops (ele order x54_1)).stage)]).length 8) <|
 ck (IR (x54_1+1)) <|
 some (.next ((v17_1++[((ele k_.ops (ele order x54_1)).dest+(ele k_.ops (ele order x54_1)).stage)]),(v16_1++[(x56+x59)]),(v15_1++[x48]),(Es m14n_1 (ele order x54_1) true),(x54_1+1)))))) (
 some (.brk (v17_1,v16_1,v15_1,m14n_1,x54_1)))
noncomputable def Iu (l:Lp) (t:Tgt) (k_:Krn) (order:List Int):Option (Option L5×Bool) :=
 bd (Gl l) fun x4 =>
 bdG (!(!x4)) (Hh t k_ l.logs) fun x7 =>
 br ((((!x4) || (!x7)) || ((ln k_.ops) != (ln l.body))) || ((ln order) != (ln l.body))) (
 some (none,false)) (
 bd (lp (Ct l t k_ order) ([],[],[],([]:List (Int×Bool)),0)) fun o18=>o18.on (fun (v17_1,v16_1,v15_1,m14n_1,x54_1) =>
 some ((some (l.logs,l.body,l.outs,k_.pace,t.regs,v15_1,v16_1,v17_1)),true)) (fun r=>some r))
noncomputable def Ep (t:Tgt) (k_:Krn) (order y_Places:List Int) (x19_3:Int) (x25:List Rf):Int→Option (Stp (Int) (Bool)):=fun x35_4 =>
 br (decide (x35_4<(ln x25))) (
 ck (IX x35_4 (ln x25)) <|
 ck (IX x35_4 2) <|
 ck (IX ((ele x25 x35_4).st) (ln y_Places)) <|
 ck (IR ((ele y_Places ((ele x25 x35_4).st)) - (ele x25 x35_4).bk)) <|
 ck (IR (((ele y_Places ((ele x25 x35_4).st)) - (ele x25 x35_4).bk) - (ele k_.ops (ele order x19_3)).stage)) <|
 bd (F9 (((ele y_Places ((ele x25 x35_4).st)) - (ele x25 x35_4).bk) - (ele k_.ops (ele order x19_3)).stage) t.regs) fun x51 =>
 br ((ele ([(ele k_.ops (ele order x19_3)).a,(ele k_.ops (ele order x19_3)).b]:List Int) x35_4) != x51) (
 some (.ret false)) (
 ck (IR (x35_4+1)) <|
 some (.next (x35_4+1)))) (
 some (.brk x35_4))
noncomputable def Er (l:Lp) (t:Tgt) (k_:Krn) (order y_Places:List Int):Int→Option (Stp (Int) (Bool)):=fun x19_3 =>
 br (decide (x19_3<(ln l.body))) (
 ck (IX x19_3 (ln l.body)) <|
 ck (IX x19_3 (ln order)) <|
 ck (IX (ele order x19_3) (ln k_.ops)) <|
 bd (Dh (ele l.body x19_3)) fun x25 =>
 bd (lp (Ep t k_ order y_Places x19_3 x25) 0) fun o29=>o29.on (fun x35_4 =>
 ck (IR (x19_3+1)) <|
 some (.next (x19_3+1))) (fun r=>some (.ret r))) (
 some (.brk x19_3))
noncomputable def Hw (l:Lp) (t:Tgt) (k_:Krn) (order:List Int) (y_Pace y_Regs:Int) (y_Places:List Int):Option (Bool) :=
 bd (lp (Er l t k_ order y_Places) 0) fun o4=>o4.on (fun x19_3 =>
 some true) (fun r=>some r)
noncomputable def Dw (k_:Krn) (y9:L5) (x25:List Edg×Int):Int→Option (Stp (Int) (Option L5×Bool)):=fun x46_1 =>
 br (decide (x46_1<(ln x25.1))) (
 ck (IX x46_1 (ln x25.1)) <|
 ck (IX ((ele x25.1 x46_1).to) (ln y9.2.2.2.2.2.1)) <|
 ck (IR ((ele x25.1 x46_1).bk * k_.pace)) <|
 ck (IR ((ele y9.2.2.2.2.2.1 ((ele x25.1 x46_1).to))+((ele x25.1 x46_1).bk * k_.pace))) <|
 ck (IX ((ele x25.1 x46_1).fr) (ln y9.2.2.2.2.2.1)) <|
 ck (IR ((ele y9.2.2.2.2.2.1 ((ele x25.1 x46_1).fr))+(ele x25.1 x46_1).wt)) <|
 br (decide (((ele y9.2.2.2.2.2.1 ((ele x25.1 x46_1).to))+((ele x25.1 x46_1).bk * k_.pace))<((ele y9.2.2.2.2.2.1 ((ele x25.1 x46_1).fr))+(ele x25.1 x46_1).wt))) (
 some (.ret (none,false))) (
 ck (IR (x46_1+1)) <|
 some (.next (x46_1+1)))) (
 some (.brk x46_1))
noncomputable def En (l:Lp) (y9:L5) (x80_5:Int):Int→Option (Stp (Int) (Option L5×Bool)):=fun x90_6 =>
 br (decide (x90_6<(ln l.body))) (
 bd (Ie y9.2.1 y9.2.2.1 y9.2.2.2.1 y9.2.2.2.2.1 y9.2.2.2.2.2.1 y9.2.2.2.2.2.2.1 y9.2.2.2.2.2.2.2 x80_5 x90_6) fun x54 =>
 br (!x54) (
 some (.ret (none,false))) (
 ck (IR (x90_6+1)) <|
 some (.next (x90_6+1)))) (
 some (.brk x90_6))
noncomputable def Eo (l:Lp) (y9:L5):((List Int)×Int)→Option (Stp ((List Int)×Int) (Option L5×Bool)):=fun (v34_5,x80_5) =>
 br (decide (x80_5<(ln l.body))) (
 ck (AL (v34_5++[x80_5]).length 8) <|
 bd (lp (En l y9 x80_5) 0) fun o47=>o47.on (fun x90_6 =>
 ck (IR (x80_5+1)) <|
 some (.next ((v34_5++[x80_5]),(x80_5+1)))) (fun r=>some (.ret r))) (
 some (.brk (v34_5,x80_5)))
noncomputable def Gs (l:Lp) (t:Tgt) (k_:Krn) (order:List Int):Option (Option L5×Bool) :=
 bd (Iu l t k_ order) fun x4 =>
 Sy x4.1 (
 ck (x4.2=false) <|
 ck ((!(!false))=true→False) <|
 some (none,false)) fun y9 =>
 bdG (!(!x4.2)) (Hw l t k_ order y9.2.2.2.1 y9.2.2.2.2.1 y9.2.2.2.2.2.2.2) fun x19 =>
 br ((!x4.2) || (!x19)) (
 some (none,false)) (
 bd (D4 l t) fun x25 =>
 bd (lp (Dw k_ y9 x25) 0) fun o29=>o29.on (fun x46_1 =>
 bd (lp (Eo l y9) ([],0)) fun o35=>o35.on (fun (v34_5,x80_5) =>
 bd (Iq y9.1 y9.2.1 y9.2.2.1 y9.2.2.2.1 y9.2.2.2.2.1 y9.2.2.2.2.2.2.2 v34_5) fun x40 =>
 some ((some (y9.1,y9.2.1,y9.2.2.1,y9.2.2.2.1,y9.2.2.2.2.1,y9.2.2.2.2.2.1,y9.2.2.2.2.2.2.1,y9.2.2.2.2.2.2.2)),x40)) (fun r=>some r)) (fun r=>some r))
noncomputable def Jx (l:Lp) (t:Tgt) (k_:Krn) (order:List Int):Option (Bool) :=
 bd (Gs l t k_ order) fun x4 =>
 Sy x4.1 (
 ck (x4.2=false) <|
 some false) fun y9 =>
 some x4.2
def Gx (y:LayD):L5:=(y.logs,y.body,y.outs,y.pace,y.regs,y.time,y.ready,y.places)
theorem Al8 {t:Tgt}{k:Krn}{o:Opr}{logs:List Int} (hm:KMayP t k logs) (h:Oz t k o logs):Ed k o=some (L9 k o):=by
 have hb:=R6 hm h
 unfold L9 at *
 have e:=Int.mul_comm o.stage k.pace
 have hs:=h.1
 unfold Aoj at hs
 unfold Ed
 rw[Aj (by omega) (by omega),Aj (by omega) (by omega)]
 congr 1
 omega
theorem Ahf {l:Lp} (hf:l.Fine) {t:Tgt}{k:Krn}{order:List Int} (hk:Vc l k) (ho:order.length≤9223372036854775807):Iu l t k order=some (if tb (LayP l t k order)=true then (some (Gx (Ba l t k order)),true) else (none,false)):=by
 unfold Iu
 rw[Wj l hf,bd_ret,Ajc hk,Ka]
 by_cases h:LoopOk l∧KMayP t k l.logs∧k.ops.length=l.body.length∧order.length=l.body.length
 ·obtain⟨h1,h2,h3,h4⟩:=h
  have hn:=h1.2.2.1
  rw[Cc h1,Cc h2,show ((((!true) || (!(if (!(!true))=true then true else false))) || ((ln k.ops) != (ln l.body))) || ((ln order) != (ln l.body)))=false from by unfold ln;simp[h3,h4],br_false]
  have key:∀ d s:Nat,s+d=l.body.length→(∀ j,j<s→Aio l k order j)→∀ m:List (Int×Bool),(∀ v,Dm m v false=true↔∃ j,j<s∧ele order (j:Int)=v) →
    ((∀ j,j<l.body.length→Aio l k order j)∧∃ m',lp (Ct l t k order) ((List.range s).map (fun i=>(Ls t k order i).place),(List.range s).map (fun i=>(Ls t k order i).ready),(List.range s).map (fun i=>(Ls t k order i).time),m,(s:Int)) =
     some (.go ((List.range l.body.length).map (fun i=>(Ls t k order i).place),(List.range l.body.length).map (fun i=>(Ls t k order i).ready),(List.range l.body.length).map (fun i=>(Ls t k order i).time),m',(l.body.length:Int)))) ∨
    (¬(∀ j,j<l.body.length→Aio l k order j)∧lp (Ct l t k order) ((List.range s).map (fun i=>(Ls t k order i).place),(List.range s).map (fun i=>(Ls t k order i).ready),(List.range s).map (fun i=>(Ls t k order i).time),m,(s:Int))=some (.ret (none,false))):=by
   intro d
   induction d with
   | zero =>
    intro s hs hp m hm
    have:s=l.body.length:=by omega
    subst this
    exact .inl ⟨hp,m,C0 (by unfold Ct;exact Bt (by unfold ln;omega))⟩
   | succ d ih =>
    intro s hs hp m hm
    have hs':s<l.body.length:=by omega
    have hix:IX (s:Int) (ln order):=⟨by omega,by unfold ln;omega⟩
    by_cases c1:0≤ele order (s:Int)∧ele order (s:Int)<l.body.length
    ·have hone:=Ks h2 h3 c1
     have hob:=R6 h2 hone
     have hw:=Mz t (A8 k order s).op
     have hixo:IX (ele order (s:Int)) (ln k.ops):=⟨c1.1,by unfold ln;omega⟩
     by_cases c2:∀ i,i<s→ele order (i:Int)≠ele order (s:Int)
     ·have hmf:Dm m (ele order (s:Int)) false=false:=by
       cases hh:Dm m (ele order (s:Int)) false with
       | false=>rfl
       | true =>
        obtain⟨j,hj,he⟩:=(hm _).1 hh
        exact absurd he (c2 j hj)
      have hb:(!([(Eh (A8 k order s)).op,(Eh (A8 k order s)).a.st,(Eh (A8 k order s)).a.bk,(Eh (A8 k order s)).b.st,(Eh (A8 k order s)).b.bk,(Eh (A8 k order s)).ar,(Eh (A8 k order s)).sp,(Eh (A8 k order s)).pl,(Eh (A8 k order s)).n]==[(ele l.body (s:Int)).op,0,0,0,0,(ele l.body (s:Int)).ar,(ele l.body (s:Int)).sp,(ele l.body (s:Int)).pl,(ele l.body (s:Int)).n]))=!tb (Wi (A8 k order s) (ele l.body (s:Int))):=by
       congr 1
       exact H7 (by unfold Wi Eh;simp)
      have hstep:Ct l t k order ((List.range s).map (fun i=>(Ls t k order i).place),(List.range s).map (fun i=>(Ls t k order i).ready),(List.range s).map (fun i=>(Ls t k order i).time),m,(s:Int))=br (!tb (Wi (A8 k order s) (ele l.body (s:Int)))) (some (.ret (none,false))) (some (.next ((List.range (s+1)).map (fun i=>(Ls t k order i).place),(List.range (s+1)).map (fun i=>(Ls t k order i).ready),(List.range (s+1)).map (fun i=>(Ls t k order i).time),Es m (ele order (s:Int)) true,((s+1:Nat):Int)))):=by
       unfold Ct
       simp only
       rw[Bu (by unfold ln;omega),Ao hix,show ((decide (ele order (s:Int)<0) || decide (ele order (s:Int)≥ln k.ops)) || Dm m (ele order (s:Int)) false)=false from by rw[hmf];unfold ln;simp;omega,br_false,Ao hixo,Av (by omega) (by unfold ln;omega)]
       rw[show ele k.ops (ele order (s:Int))=A8 k order s from rfl,show Ht (A8 k order s)=some (Eh (A8 k order s)) from rfl,bd_ret,hb,Al8 h2 hone]
       simp only[bd_ret]
       rw[Ao (AL8 (by simp;omega)),Jt,bd_ret,Aj (by omega) (by omega),Ao (AL8 (by simp;omega)),Aj (by omega) (by omega),Ao (AL8 (by simp;omega)),Aj (by omega) (by omega)]
       rw[show L9 k (A8 k order s)=(fun i=>(Ls t k order i).time) s from rfl,show (fun i=>(Ls t k order i).time) s+Cn t (A8 k order s).op=(fun i=>(Ls t k order i).ready) s from rfl,show (A8 k order s).dest+(A8 k order s).stage=(fun i=>(Ls t k order i).place) s from rfl,rm_succ,rm_succ,rm_succ]
       rfl
      by_cases c3:Wi (A8 k order s) (ele l.body (s:Int))
      ·rw[Cc c3,Bool.not_true,br_false] at hstep
       have hp':∀ j,j<s+1→Aio l k order j:=fun j hj=>by
        by_cases e:j=s
        ·subst e;exact⟨c1,c2,c3⟩
        ·exact hp j (by omega)
       rcases ih (s+1) (by omega) hp' (Es m (ele order (s:Int)) true) (fun v=>by
        rw[J8]
        by_cases e:ele order (s:Int)=v
        ·rw[if_pos e];exact⟨fun _=>⟨s,by omega,e⟩,fun _=>rfl⟩
        ·rw[if_neg e,hm]
         constructor
         ·rintro ⟨j,hj,he⟩;exact⟨j,by omega,he⟩
         ·rintro ⟨j,hj,he⟩
          by_cases e2:j=s
          ·subst e2;exact absurd he e
          ·exact⟨j,by omega,he⟩) with ⟨q1,m',q2⟩ | ⟨q1,q2⟩
       ·exact .inl ⟨q1,m',Cr hstep q2⟩
       ·exact .inr ⟨q1,Cr hstep q2⟩
      ·rw[B0 c3] at hstep
       exact .inr ⟨fun h=>c3 (h s hs').2.2,K8 hstep⟩
     ·have hmt:Dm m (ele order (s:Int)) false=true:=by
       refine(hm _).2 ?_
       refine Classical.byContradiction fun hh=>c2 fun i hi he=>hh ⟨i,hi,he⟩
      refine .inr ⟨fun h=>c2 (h s hs').2.1,K8 ?_⟩
      unfold Ct
      simp only
      rw[Bu (by unfold ln;omega),Ao hix,hmt,Bool.or_true,br_true]
    ·refine .inr ⟨fun h=>c1 (h s hs').1,K8 ?_⟩
     unfold Ct
     simp only
     rw[Bu (by unfold ln;omega),Ao hix,show ((decide (ele order (s:Int)<0) || decide (ele order (s:Int)≥ln k.ops)) || Dm m (ele order (s:Int)) false)=true from by
      unfold ln
      rw[Bool.or_eq_true,Bool.or_eq_true,decide_eq_true_eq,decide_eq_true_eq];omega,br_true]
  rcases key l.body.length 0 (by omega) (fun j hj=>absurd hj (Nat.not_lt_zero _)) [] (fun v=>⟨fun h=>(by cases h),fun ⟨j,hj,_⟩=>absurd hj (Nat.not_lt_zero _)⟩) with ⟨q1,m',e⟩ | ⟨q1,e⟩
  ·rw[show lp (Ct l t k order) ([],[],[],([]:List (Int×Bool)),0)=_ from e,bd_ret,Out.on_go,Cc (p:=LayP l t k order) ⟨h1,h2.tgt,h2,h3,h4,q1⟩]
   rfl
  ·rw[show lp (Ct l t k order) ([],[],[],([]:List (Int×Bool)),0)=_ from e,bd_ret,Out.on_ret,B0 fun h:LayP l t k order=>q1 h.ord]
   rfl
 ·rw[B0 fun hl:LayP l t k order=>h ⟨hl.loop,hl.may,hl.n,hl.no⟩]
  by_cases h1:LoopOk l
  ·by_cases h2:KMayP t k l.logs
   ·rw[Cc h1,Cc h2,show ((((!true) || (!(if (!(!true))=true then true else false))) || ((ln k.ops) != (ln l.body))) || ((ln order) != (ln l.body)))=true from by
     unfold ln
     by_cases h3:k.ops.length=l.body.length
     ·have h4:¬order.length=l.body.length:=fun h4=>h ⟨h1,h2,h3,h4⟩
      simp;omega
     ·simp;omega,br_true]
    rfl
   ·rw[Cc h1,B0 h2];rfl
  ·rw[B0 h1];rfl
section
variable {l : Lp} {t : Tgt} {k : Krn} {order : List Int}
def Tt (l:Lp) (t:Tgt) (k:Krn) (order:List Int):Prop:=∀ s,s<l.body.length→∀ i,i<(A3 (ele l.body (s:Int))).length→Vb l t k order s i
theorem Amk (h:LayP l t k order):Hw l t k order (Ba l t k order).pace (Ba l t k order).regs (Ba l t k order).places=some (tb (Tt l t k order)):=by
 have hy:=I0 h
 have hn:=h.loop.2.2.1
 have hR:=hy.regs
 have hlp:=hy.lp
 have hbl:(Ba l t k order).body.length=l.body.length:=rfl
 have hno:=h.no;have hnn:=h.n
 unfold Hw
 have X:=Iz (f:=Er l t k order (Ba l t k order).places) (ρ:=Bool) (fun s=>(s:Int)) l.body.length (fun s=>∀ i,i<(A3 (ele l.body (s:Int))).length→Vb l t k order s i) (fun _=>false) (fun s hs _=>by
  have hor:=h.ord s hs
  have ho:=R6 h.may (Ks h.may h.n hor.1)
  have hlen:=J7 (ele l.body (s:Int))
  unfold Er
  rw[Bu (by unfold ln;omega),Av (by omega) (by unfold ln;omega),Av (by omega) (by unfold ln;omega),Av hor.1.1 (by unfold ln;rw[hnn];exact hor.1.2),Sf,bd_ret]
  rcases Iz (f:=Ep t k order (Ba l t k order).places s (A3 (ele l.body (s:Int)))) (ρ:=Bool) (fun i=>(i:Int)) (A3 (ele l.body (s:Int))).length (fun i=>Vb l t k order s i) (fun _=>false) (fun i hi _=>by
    have hu:=Qv h s hs _ (Cv hi)
    obtain⟨a,ha⟩:=Int.eq_ofNat_of_zero_le hu.1
    have ha':a<l.body.length:=by have:=hu.2.1;omega
    have pa:=hy.pl a ha'
    unfold Ep
    rw[Bu (by unfold ln;omega),Av (by omega) (by unfold ln;omega),Av (by omega) (by omega),ha,Av (by omega) (by unfold ln;omega),Aj (by omega) (by omega)]
    rw[show ele k.ops (ele order (s:Int))=A8 k order s from rfl,Aj (by omega) (by omega),Tb (by show 1≤(Ba l t k order).regs;omega) (by show (Ba l t k order).regs≤128;omega),bd_ret]
    have hname:ele ([(A8 k order s).a,(A8 k order s).b]:List Int) (i:Int)=Afj (A8 k order s) i:=by
     obtain c | c:i=0∨i=1:=by omega
     all_goals subst c;rfl
    have hnp:(ele ([(A8 k order s).a,(A8 k order s).b]:List Int) (i:Int) != (ele (Ba l t k order).places (a:Int) - (ele (A3 (ele l.body (s:Int))) (i:Int)).bk - (A8 k order s).stage) % t.regs)=!tb (Vb l t k order s i):=by
     unfold Vb
     rw[hname,ha,neB]
    rw[hnp]
    exact⟨fun h=>by rw[Cc h,Bool.not_true,br_false,Aj (by omega) (by omega)];rfl,fun h=>by rw[B0 h,Bool.not_false,br_true]⟩) (by unfold Ep;exact Bt (by unfold ln;omega)) with ⟨q1,e⟩ | ⟨i,q1,q2,_,e⟩
  ·rw[show lp (Ep t k order (Ba l t k order).places s (A3 (ele l.body (s:Int)))) 0=_ from e,bd_ret,Out.on_go,Aj (by omega) (by omega)]
   exact⟨fun _=>rfl,fun h=>absurd q1 h⟩
  ·rw[show lp (Ep t k order (Ba l t k order).places s (A3 (ele l.body (s:Int)))) 0=_ from e,bd_ret,Out.on_ret]
   exact⟨fun h=>absurd (h i q1) q2,fun _=>rfl⟩) (by unfold Er;exact Bt (by unfold ln;omega))
 rcases X with ⟨q1,e⟩ | ⟨s,q1,q2,_,e⟩
 ·rw[show lp (Er l t k order (Ba l t k order).places) 0=_ from e,bd_ret,Out.on_go,Cc (p:=Tt l t k order) q1]
 ·rw[show lp (Er l t k order (Ba l t k order).places) 0=_ from e,bd_ret,Out.on_ret,B0 fun h:Tt l t k order=>q2 (h s q1)]
end
section
variable {l : Lp} {t : Tgt} {k : Krn} {order : List Int}
theorem Wz (hf:l.Fine) (hk:Vc l k) (ho:order.length≤9223372036854775807):∃ r,Gs l t k order=some (r,tb (TakesP l t k order))∧(TakesP l t k order→r=some (Gx (Ba l t k order))):=by
 unfold Gs
 rw[Ahf hf hk ho,bd_ret]
 by_cases h:LayP l t k order
 ·rw[Cc h,if_pos rfl]
  show ∃ r,(Sy (some (Gx (Ba l t k order))) _ _)=_∧_
  unfold Sy
  simp only
  have hn:=Amk h
  rw[show (!(!((some (Gx (Ba l t k order)),true):Option L5×Bool).2))=true from rfl,bdG_t,show Hw l t k order (Gx (Ba l t k order)).2.2.2.1 (Gx (Ba l t k order)).2.2.2.2.1 (Gx (Ba l t k order)).2.2.2.2.2.2.2=_ from hn,bd_ret]
  by_cases hN:Tt l t k order
  ·rw[Cc hN,show ((!((some (Gx (Ba l t k order)),true):Option L5×Bool).2) || (!true))=false from rfl,br_false]
   obtain⟨E,e1,e2,e3,e4,e5⟩:=Sm h.loop hf h.tgt
   have hy:=I0 h
   have hp:=h.may.pace
   have hnn:=h.loop.2.2.1
   have hlt:=hy.lt
   have hbl:(Ba l t k order).body.length=l.body.length:=rfl
   rw[e1,bd_ret]
   rcases Iz (f:=Dw k (Gx (Ba l t k order)) (E,0)) (ρ:=Option L5×Bool) (fun i=>(i:Int)) E.length (fun i=>P7 (Ba l t k order) (ele E (i:Int))) (fun _=>(none,false)) (fun i hi _=>by
     have hin:=((e4 _).1 (Cv hi)).in h.loop
     obtain⟨a,ha⟩:=Int.eq_ofNat_of_zero_le hin.to.1
     obtain⟨b,hb⟩:=Int.eq_ofNat_of_zero_le hin.fr.1
     have ha':a<l.body.length:=by have:=hin.to.2;omega
     have hb':b<l.body.length:=by have:=hin.fr.2;omega
     have ta:=hy.tm a ha';have tb_:=hy.tm b hb'
     have hbk:=hin.bk;have hwt:=hin.wt
     have m1:=Ms (a:=(ele E (i:Int)).bk) (A:=32) (b:=k.pace) (B:=200) (by omega) (by omega) (by omega) (by omega)
     have e:Dw k (Gx (Ba l t k order)) (E,0) i=br (!tb (P7 (Ba l t k order) (ele E (i:Int)))) (some (.ret (none,false))) (some (.next ((i:Int)+1))):=by
      unfold Dw
      simp only
      rw[show (Gx (Ba l t k order)).2.2.2.2.2.1=(Ba l t k order).time from rfl]
      rw[Bu (by unfold ln;omega),Av (by omega) (by unfold ln;omega),ha,hb,Av (by omega) (by unfold ln;omega),Aj (by omega) (by omega),Aj (by omega) (by omega),Av (by omega) (by unfold ln;omega),Aj (by omega) (by omega),Aj (by omega) (by omega)]
      congr 1
      have:(!decide (ele (Ba l t k order).time (a:Int)+(ele E (i:Int)).bk * k.pace<ele (Ba l t k order).time (b:Int)+(ele E (i:Int)).wt))=tb (P7 (Ba l t k order) (ele E (i:Int))):=H7 (by
       unfold P7
       rw[ha,hb,show (Ba l t k order).pace=k.pace from rfl]
       simp)
      rw[←this,Bool.not_not]
     rw[e]
     exact⟨fun h=>by rw[Cc h];rfl,fun h=>by rw[B0 h];rfl⟩) (by unfold Dw;exact Bt (by show ¬((E.length:Int)<ln E);unfold ln;omega)) with ⟨q1,w1⟩ | ⟨i,q1,q2,_,w1⟩
   ·rw[show lp (Dw k (Gx (Ba l t k order)) (E,0)) 0=_ from w1,bd_ret,Out.on_go]
    have X:=Iz (f:=Eo l (Gx (Ba l t k order))) (ρ:=Option L5×Bool) (fun a=>(Ea a,(a:Int))) l.body.length (fun a=>∀ m:Nat,m<l.body.length→Jm (Ba l t k order) a m) (fun _=>(none,false)) (fun a ha _=>by
     unfold Eo
     simp only
     rw[Bu (by unfold ln;omega),show Ea a++[(a:Int)]=Ea (a+1) from rm_succ (g:=fun i:Nat=>(i:Int)),Ao (AL8 (by rw[Kq];omega))]
     rcases Iz (f:=En l (Gx (Ba l t k order)) a) (ρ:=Option L5×Bool) (fun i=>(i:Int)) l.body.length (fun m=>Jm (Ba l t k order) a m) (fun _=>(none,false)) (fun m hm _=>by
       have hap:=Abh hy ha hm
       unfold En
       rw[Bu (by unfold ln;omega),show Ie (Gx (Ba l t k order)).2.1 (Gx (Ba l t k order)).2.2.1 (Gx (Ba l t k order)).2.2.2.1 (Gx (Ba l t k order)).2.2.2.2.1 (Gx (Ba l t k order)).2.2.2.2.2.1 (Gx (Ba l t k order)).2.2.2.2.2.2.1 (Gx (Ba l t k order)).2.2.2.2.2.2.2 a m=_ from hap,bd_ret]
       exact⟨fun h=>by rw[Cc h,Bool.not_true,br_false,Aj (by omega) (by omega)];rfl,fun h=>by rw[B0 h,Bool.not_false,br_true]⟩) (by unfold En;exact Bt (by unfold ln;omega)) with ⟨w1,e⟩ | ⟨m,w1,w2,_,e⟩
     ·rw[show lp (En l (Gx (Ba l t k order)) a) 0=_ from e,bd_ret,Out.on_go,Aj (by omega) (by omega)]
      exact⟨fun _=>rfl,fun h=>absurd w1 h⟩
     ·rw[show lp (En l (Gx (Ba l t k order)) a) 0=_ from e,bd_ret,Out.on_ret]
      exact⟨fun h=>absurd (h m w1) w2,fun _=>rfl⟩) (by unfold Eo;exact Bt (by unfold ln;omega))
    rcases X with ⟨q3,w2⟩ | ⟨a,q3,q4,_,w2⟩
    ·rw[show lp (Eo l (Gx (Ba l t k order))) ([],0)=_ from w2,bd_ret,Out.on_go]
     simp only
     have hfs:=Ac8 hy (L:=Ea l.body.length) (fun x hx=>by have:=Tl hx;omega) (by rw[Kq];omega)
     rw[show Iq (Gx (Ba l t k order)).1 (Gx (Ba l t k order)).2.1 (Gx (Ba l t k order)).2.2.1 (Gx (Ba l t k order)).2.2.2.1 (Gx (Ba l t k order)).2.2.2.2.1 (Gx (Ba l t k order)).2.2.2.2.2.2.2 (Ea l.body.length)=_ from hfs,bd_ret]
     refine⟨_,congrArg some (Prod.ext rfl ?_),fun _=>rfl⟩
     exact E7 ⟨fun hh=>⟨h,(Uy e4).1 q1,hN,fun a m ha hm=>q3 a ha m hm,hh⟩,fun hh=>hh.firsts⟩
    ·rw[show lp (Eo l (Gx (Ba l t k order))) ([],0)=_ from w2,bd_ret,Out.on_ret]
     have hnt:¬TakesP l t k order:=fun hh=>q4 fun m hm=>hh.apart a m q3 hm
     exact⟨none,by rw[B0 hnt],fun hh=>absurd hh hnt⟩
   ·rw[show lp (Dw k (Gx (Ba l t k order)) (E,0)) 0=_ from w1,bd_ret,Out.on_ret]
    have hnt:¬TakesP l t k order:=fun hh=>q2 (hh.edge _ ((e4 _).1 (Cv q1)))
    exact⟨none,by rw[B0 hnt],fun hh=>absurd hh hnt⟩
  ·have hnt:¬TakesP l t k order:=fun hh=>hN hh.name
   rw[B0 hN,show ((!((some (Gx (Ba l t k order)),true):Option L5×Bool).2) || (!false))=true from rfl,br_true]
   exact⟨none,by rw[B0 hnt],fun hh=>absurd hh hnt⟩
 ·have hnt:¬TakesP l t k order:=fun hh=>h hh.lay
  rw[B0 h,if_neg (by decide)]
  refine⟨none,?_,fun hh=>absurd hh hnt⟩
  rw[B0 hnt]
  unfold Sy
  simp only
  rw[Ao trivial,Ao (by decide)]
theorem Ahd (hf:l.Fine) (hk:Vc l k) (ho:order.length≤9223372036854775807):Jx l t k order=some (tb (TakesP l t k order)):=by
 obtain⟨r,e,hr⟩:=Wz (t:=t) hf hk ho
 unfold Jx
 rw[e,bd_ret]
 by_cases h:TakesP l t k order
 ·rw[hr h];rfl
 ·rw[B0 h]
  unfold Sy
  cases r with
  | none=>simp only;rw[Ao trivial]
  | some y=>rfl
end
noncomputable def E4 (n_:Int) (v7_3:List (List Int)) (x20_3:Int):((List (List Int))×Int)→Option (Stp ((List (List Int))×Int) (Empty)):=fun (v7_4,x33_4) =>
 br (decide (x33_4<(ln (ele (upd v7_3 x20_3 (List.replicate n_.toNat (0:Int))) x20_3)))) (
 ck (IX x20_3 (ln v7_4)) <|
 ck (IX x33_4 (ln (ele v7_4 x20_3))) <|
 ck (IR (x33_4+1)) <|
 some (.next ((updG v7_4 x20_3 x33_4 (-1099511627776)),(x33_4+1)))) (
 some (.brk (v7_4,x33_4)))
noncomputable def E5 (n_:Int):((List (List Int))×Int)→Option (Stp ((List (List Int))×Int) (Empty)):=fun (v7_3,x20_3) =>
 br (decide (x20_3<(ln (List.replicate n_.toNat ([]:List Int))))) (
 ck (0≤n_) <|
 ck (AL n_.toNat 8) <|
 ck (IX x20_3 (ln v7_3)) <|
 ck (IX x20_3 (ln (upd v7_3 x20_3 (List.replicate n_.toNat (0:Int))))) <|
 bd (lp (E4 n_ v7_3 x20_3) ((upd v7_3 x20_3 (List.replicate n_.toNat (0:Int))),0)) fun o34=>o34.on (fun (v7_4,x33_4) =>
 ck (IR (x20_3+1)) <|
 some (.next (v7_4,(x20_3+1)))) (fun r=>r.elim)) (
 some (.brk (v7_3,x20_3)))
noncomputable def E3 (edges:List Edg) (pace:Int):((List (List Int))×Int)→Option (Stp ((List (List Int))×Int) (Empty)):=fun (v7_4,x46_4) =>
 br (decide (x46_4<(ln edges))) (
 ck (IX x46_4 (ln edges)) <|
 ck (IX ((ele edges x46_4).fr) (ln v7_4)) <|
 ck (IX ((ele edges x46_4).fr) (ln v7_4)) <|
 ck (IX ((ele edges x46_4).to) (ln (ele v7_4 ((ele edges x46_4).fr)))) <|
 ck (IR (pace * (ele edges x46_4).bk)) <|
 ck (IR ((ele edges x46_4).wt - (pace * (ele edges x46_4).bk))) <|
 ck (IX ((ele edges x46_4).to) (ln (ele v7_4 ((ele edges x46_4).fr)))) <|
 ck (IR (x46_4+1)) <|
 some (.next ((updG v7_4 ((ele edges x46_4).fr) ((ele edges x46_4).to) (max (ele (ele v7_4 ((ele edges x46_4).fr)) ((ele edges x46_4).to)) ((ele edges x46_4).wt - (pace * (ele edges x46_4).bk)))),(x46_4+1)))) (
 some (.brk (v7_4,x46_4)))
noncomputable def D7 (n_ x77_13 x81_16:Int):((List (List Int))×Int)→Option (Stp ((List (List Int))×Int) (Empty)):=fun (v7_17,x85_17) =>
 br (decide (x85_17<n_)) (
 ck (IX x81_16 (ln v7_17)) <|
 ck (IX x77_13 (ln (ele v7_17 x81_16))) <|
 ck ((decide ((ele (ele v7_17 x81_16) x77_13)>(-1099511627776)))=true→IX x77_13 (ln v7_17)) <|
 ck ((decide ((ele (ele v7_17 x81_16) x77_13)>(-1099511627776)))=true→IX x85_17 (ln (ele v7_17 x77_13))) <|
 br ((decide ((ele (ele v7_17 x81_16) x77_13)>(-1099511627776)))&&(decide ((ele (ele v7_17 x77_13) x85_17)>(-1099511627776)))) (
 ck (IX x81_16 (ln v7_17)) <|
 ck (IX x81_16 (ln v7_17)) <|
 ck (IX x85_17 (ln (ele v7_17 x81_16))) <|
 ck (IX x81_16 (ln v7_17)) <|
 ck (IX x77_13 (ln (ele v7_17 x81_16))) <|
 ck (IX x77_13 (ln v7_17)) <|
 ck (IX x85_17 (ln (ele v7_17 x77_13))) <|
 ck (IR ((ele (ele v7_17 x81_16) x77_13)+(ele (ele v7_17 x77_13) x85_17))) <|
 ck (IX x85_17 (ln (ele v7_17 x81_16))) <|
 ck (IR (x85_17+1)) <|
 some (.next ((updG v7_17 x81_16 x85_17 (max (ele (ele v7_17 x81_16) x85_17) (min ((ele (ele v7_17 x81_16) x77_13)+(ele (ele v7_17 x77_13) x85_17)) 1048576))),(x85_17+1)))) (
 ck (IR (x85_17+1)) <|
 some (.next (v7_17,(x85_17+1))))) (
 some (.brk (v7_17,x85_17)))
noncomputable def Ez (n_ x77_13:Int):((List (List Int))×Int)→Option (Stp ((List (List Int))×Int) (Empty)):=fun (v7_16,x81_16) =>
 br (decide (x81_16<n_)) (
 bd (lp (D7 n_ x77_13 x81_16) (v7_16,0)) fun o34=>o34.on (fun (v7_17,x85_17) =>
 ck (IR (x81_16+1)) <|
 some (.next (v7_17,(x81_16+1)))) (fun r=>r.elim)) (
 some (.brk (v7_16,x81_16)))
noncomputable def E0 (n_:Int):((List (List Int))×Int)→Option (Stp ((List (List Int))×Int) (Empty)):=fun (v7_13,x77_13) =>
 br (decide (x77_13<n_)) (
 bd (lp (Ez n_ x77_13) (v7_13,0)) fun o27=>o27.on (fun (v7_16,x81_16) =>
 ck (IR (x77_13+1)) <|
 some (.next (v7_16,(x77_13+1)))) (fun r=>r.elim)) (
 some (.brk (v7_13,x77_13)))
noncomputable def Fk (n_:Int) (v7_13:List (List Int)):Int→Option (Stp (Int) (Bool)):=fun x140_14 =>
 br (decide (x140_14<n_)) (
 ck (IX x140_14 (ln v7_13)) <|
 ck (IX x140_14 (ln (ele v7_13 x140_14))) <|
 br (decide ((ele (ele v7_13 x140_14) x140_14)>0)) (
 some (.ret false)) (
 ck (IR (x140_14+1)) <|
 some (.next (x140_14+1)))) (
 some (.brk x140_14))
noncomputable def Iw (n_:Int) (edges:List Edg) (pace:Int):Option (Bool) :=
 ck (0≤n_) <|
 ck (AL n_.toNat 24) <|
 bd (lp (E5 n_) ((List.replicate n_.toNat ([]:List Int)),0)) fun o10=>o10.on (fun (v7_3,x20_3) =>
 bd (lp (E3 edges pace) (v7_3,0)) fun o15=>o15.on (fun (v7_4,x46_4) =>
 bd (lp (E0 n_) (v7_4,0)) fun o20=>o20.on (fun (v7_13,x77_13) =>
 bd (lp (Fk n_ v7_13) 0) fun o25=>o25.on (fun x140_14 =>
 some true) (fun r=>some r)) (fun r=>r.elim)) (fun r=>r.elim)) (fun r=>r.elim)
noncomputable def Fz (l:Lp):((List Int)×Int)→Option (Stp ((List Int)×Int) (Empty)):=fun (b10n_1,x25_1) =>
 br (decide (x25_1<(ln l.body))) (
 ck (IX x25_1 (ln l.body)) <|
 bd (Dg ((ele l.body x25_1).op)) fun x23 =>
 ck (IX x23 3) <|
 ck (IX x23 (ln b10n_1)) <|
 ck (IR ((ele b10n_1 x23)+1)) <|
 ck (IX x23 3) <|
 ck (IX x23 (ln b10n_1)) <|
 ck (IR (x25_1+1)) <|
 some (.next ((upd b10n_1 x23 ((ele b10n_1 x23)+1)),(x25_1+1)))) (
 some (.brk (b10n_1,x25_1)))
noncomputable def Fy (t:Tgt) (b10n_1:List Int):(Int×Int)→Option (Stp (Int×Int) (Empty)):=fun (units4_2,x38_2) =>
 br (decide (x38_2<3)) (
 ck (IX x38_2 3) <|
 ck (IX x38_2 3) <|
 ck (IR ((ele b10n_1 x38_2)+(Bi t.u0 t.u1 t.u2 x38_2))) <|
 ck (IR (((ele b10n_1 x38_2)+(Bi t.u0 t.u1 t.u2 x38_2)) - 1)) <|
 ck (IX x38_2 3) <|
 ck ((Bi t.u0 t.u1 t.u2 x38_2)≠0) <|
 ck (IR (Int.tdiv (((ele b10n_1 x38_2)+(Bi t.u0 t.u1 t.u2 x38_2)) - 1) (Bi t.u0 t.u1 t.u2 x38_2))) <|
 ck (IR (x38_2+1)) <|
 some (.next ((max units4_2 (Int.tdiv (((ele b10n_1 x38_2)+(Bi t.u0 t.u1 t.u2 x38_2)) - 1) (Bi t.u0 t.u1 t.u2 x38_2))),(x38_2+1)))) (
 some (.brk (units4_2,x38_2)))
noncomputable def Ix (l:Lp) (x3:List Edg×Int):Int→Option (Stp (Int) (Empty)):=fun least5_3 =>
 bd (Iw (ln l.body) x3.1 least5_3) fun x28 =>
 br (!x28) (
 ck (IR (least5_3+1)) <|
 some (.next (least5_3+1))) (
 some (.brk least5_3))
noncomputable def Jy (l:Lp) (t:Tgt):Option (Int×Int×Int) :=
 bd (D4 l t) fun x3 =>
 br (x3.2 != 0) (
 some (0,0,x3.2)) (
 bd (lp (Fz l) (([0,0,0]:List Int),0)) fun o11=>o11.on (fun (b10n_1,x25_1) =>
 ck (b10n_1.length=3) <|
 bd (lp (Fy t b10n_1) (1,0)) fun o18=>o18.on (fun (units4_2,x38_2) =>
 bd (lp (Ix l x3) 1) fun o23=>o23.on (fun least5_3 =>
 some (units4_2,least5_3,0)) (fun r=>r.elim)) (fun r=>r.elim)) (fun r=>r.elim))
def Jk (n:Nat) (f:Nat→Nat→Int):List (List Int):=(List.range n).map fun i=>(List.range n).map (f i)
def Wc (f:Nat→Nat→Int) (i j:Nat) (z:Int):Nat→Nat→Int:=fun a b=>if a=i∧b=j then z else f a b
def nev:Int:=-1099511627776
theorem Uv {n:Nat}{f:Nat→Nat→Int}{i:Nat} (hi:i<n):ele (Jk n f) (i:Int)=(List.range n).map (f i):=Fa hi
theorem Qg {n:Nat}{f:Nat→Nat→Int}{i j:Nat} (hi:i<n) (hj:j<n):ele (ele (Jk n f) (i:Int)) (j:Int)=f i j:=by rw[Uv hi,Fa hj]
theorem Kr {n:Nat}{f:Nat→Nat→Int}:ln (Jk n f)=n:=U8
theorem I3 {n:Nat}{f:Nat→Nat→Int}{i:Nat} (hi:i<n):ln (ele (Jk n f) (i:Int))=n:=by rw[Uv hi,U8]
theorem Zm {n:Nat}{f:Nat→Nat→Int}{i j:Nat}{z:Int} (hi:i<n) (hj:j<n):updG (Jk n f) (i:Int) (j:Int) z=Jk n (Wc f i j z):=by
 unfold updG
 rw[Uv hi,R0 hj]
 unfold Jk
 rw[R0 hi]
 refine Gy fun a ha=>?_
 by_cases e:a=i
 ·subst e
  rw[if_pos rfl]
  refine Gy fun b hb=>?_
  unfold Wc
  by_cases e2:b=j
  ·subst e2;rw[if_pos rfl,if_pos ⟨rfl,rfl⟩]
  ·rw[if_neg e2,if_neg fun h=>e2 h.2]
 ·rw[if_neg e]
  refine Gy fun b hb=>?_
  unfold Wc
  rw[if_neg fun h=>e h.1]
theorem Ak2 {n:Nat} (hn:n≤16) {i:Nat} (hi:i<n):lp (E4 (n:Int) ((List.range n).map fun a=>if a<i then (List.range n).map (fun _=>nev) else []) (i:Int)) ((upd ((List.range n).map fun a=>if a<i then (List.range n).map (fun _=>nev) else []) (i:Int) (List.replicate n (0:Int))),0) =
  some (.go ((List.range n).map fun a=>if a<i+1 then (List.range n).map (fun _=>nev) else [],(n:Int))):=by
 have e0:(upd ((List.range n).map fun a=>if a<i then (List.range n).map (fun _=>nev) else []) (i:Int) (List.replicate n (0:Int)))=(List.range n).map fun a=>if a=i then (List.range n).map (fun b=>if b<0 then nev else 0) else if a<i then (List.range n).map (fun _=>nev) else []:=by
  rw[R0 hi]
  refine Gy fun a ha=>?_
  by_cases e:a=i
  ·rw[if_pos e,if_pos e]
   apply List.ext_getElem?
   intro k
   by_cases hk:k<n
   ·simp[List.getElem?_replicate,hk]
   ·simp[List.getElem?_replicate,hk]
  ·rw[if_neg e,if_neg e]
 have e1:((List.range n).map fun a=>if a<i+1 then (List.range n).map (fun _=>nev) else [])=(List.range n).map fun a=>if a=i then (List.range n).map (fun b=>if b<n then nev else 0) else if a<i then (List.range n).map (fun _=>nev) else []:=by
  refine Gy fun a ha=>?_
  by_cases e:a=i
  ·rw[if_pos (by omega),if_pos e]
   exact Gy fun b hb=>by rw[if_pos hb]
  ·rw[if_neg e]
   by_cases e2:a<i
   ·rw[if_pos (by omega),if_pos e2]
   ·rw[if_neg (by omega),if_neg e2]
 have hlen:ln (ele (upd ((List.range n).map fun a=>if a<i then (List.range n).map (fun _=>nev) else []) (i:Int) (List.replicate n (0:Int))) (i:Int))=n:=by
  rw[Lq ⟨by omega,by rw[U8];omega⟩];unfold ln;simp
 rw[e1]
 have key:=Ew (f:=E4 (n:Int) ((List.range n).map fun a=>if a<i then (List.range n).map (fun _=>nev) else []) (i:Int)) (fun j=>((List.range n).map fun a=>if a=i then (List.range n).map (fun b=>if b<j then nev else 0) else if a<i then (List.range n).map (fun _=>nev) else [],(j:Int))) n (fun j hj=>by
   unfold E4
   simp only[Int.toNat_natCast]
   rw[Bu (by rw[hlen];omega),Av (by omega) (by rw[U8];omega),Fa hi,if_pos rfl,Av (by omega) (by rw[U8];omega),Aj (by omega) (by omega)]
   refine congrArg some (congrArg Stp.next (Prod.ext ?_ rfl))
   show updG _ _ _ _=_
   unfold updG
   rw[Fa hi,if_pos rfl,R0 hj,R0 hi]
   refine Gy fun a ha=>?_
   by_cases e:a=i
   ·rw[if_pos e,if_pos e]
    refine Gy fun b hb=>?_
    by_cases e2:b=j
    ·rw[if_pos e2,if_pos (by omega)];rfl
    ·rw[if_neg e2]
     by_cases e3:b<j
     ·rw[if_pos e3,if_pos (by omega)]
     ·rw[if_neg e3,if_neg (by omega)]
   ·rw[if_neg e,if_neg e,if_neg e]) (by
   unfold E4
   simp only[Int.toNat_natCast]
   exact Bt (by rw[hlen];omega))
 rw[e0]
 exact key
theorem Ahs {n:Nat} (hn:n≤16):lp (E5 (n:Int)) (List.replicate n ([]:List Int),0)=some (.go (Jk n (fun _ _=>nev),(n:Int))):=by
 have e0:List.replicate n ([]:List Int)=(List.range n).map fun a=>if a<0 then (List.range n).map (fun _=>nev) else []:=by
  apply List.ext_getElem?
  intro k
  by_cases hk:k<n
  ·simp[List.getElem?_replicate,hk]
  ·simp[List.getElem?_replicate,hk]
 have e1:Jk n (fun _ _=>nev)=(List.range n).map fun a=>if a<n then (List.range n).map (fun _=>nev) else []:=Gy fun a ha=>by rw[if_pos ha]
 rw[e0,e1]
 refine Ew (f:=E5 (n:Int)) (fun i=>((List.range n).map fun a=>if a<i then (List.range n).map (fun _=>nev) else [],(i:Int))) n (fun i hi=>?_) (by
  unfold E5
  simp only[Int.toNat_natCast]
  exact Bt (by unfold ln;simp))
 unfold E5
 simp only[Int.toNat_natCast]
 rw[Bu (by unfold ln;simp;omega),Ao (by omega),Ao (AL8 (by omega)),Av (by omega) (by rw[U8];omega),Av (by omega) (by rw[R0 hi,U8];omega),Ak2 hn hi,bd_ret,Out.on_go,Aj (by omega) (by omega)]
 rfl
structure InitI (E:List Edg) (pace:Int) (k:Nat) (f:Nat→Nat→Int):Prop where
 src:∀ a b:Nat,f a b=nev∨∃ e∈E,e.fr=a∧e.to=b∧f a b=e.wt - pace * e.bk
 has:∀ i:Nat,i<k→(ele E (i:Int)).wt - pace * (ele E (i:Int)).bk≤f (ele E (i:Int)).fr.toNat (ele E (i:Int)).to.toNat
theorem Yv {n:Nat}{e:Edg} (h:EdgeIn n e) {pace:Int} (hp:1≤pace∧pace≤200):-6400≤e.wt - pace * e.bk∧e.wt - pace * e.bk≤6∧0≤pace * e.bk∧pace * e.bk≤6400:=by
 have h1:=h.bk;have h2:=h.wt
 have m1:=Ms (a:=pace) (A:=200) (b:=e.bk) (B:=32) (by omega) (by omega) (by omega) (by omega)
 have m2:=Int.mul_nonneg (show 0≤pace by omega) h1.1
 omega
theorem Ae4 {n:Nat}{E:List Edg} (hE:∀ e∈E,EdgeIn n e) (hl:E.length≤60000) {pace:Int} (hp:1≤pace∧pace≤200):∃ g,lp (E3 E pace) (Jk n (fun _ _=>nev),0)=some (.go (g,(E.length:Int)))∧∃ f,g=Jk n f∧InitI E pace E.length f:=by
 refine Kl (f:=E3 E pace) (fun k g=>∃ f,g=Jk n f∧InitI E pace k f) (fun k g hk hg=>?_) (fun g=>by unfold E3;exact Bt (by unfold ln;omega)) _ ⟨_,rfl,fun _ _=>.inl rfl,fun i hi=>absurd hi (Nat.not_lt_zero _)⟩
 obtain⟨f,rfl,hf⟩:=hg
 have hin:=hE _ (Cv hk)
 have hw:=Yv hin hp
 obtain⟨a,ha⟩:=Int.eq_ofNat_of_zero_le hin.fr.1
 obtain⟨b,hb⟩:=Int.eq_ofNat_of_zero_le hin.to.1
 have ha':a<n:=by have:=hin.fr.2;omega
 have hb':b<n:=by have:=hin.to.2;omega
 unfold E3
 simp only
 rw[ha,hb,Bu (by unfold ln;omega),Av (by omega) (by unfold ln;omega),Av (by omega) (by rw[Kr];omega),Av (by omega) (by rw[Kr];omega),Av (by omega) (by rw[I3 ha'];omega),Aj (by omega) (by omega),Aj (by omega) (by omega),Av (by omega) (by rw[I3 ha'];omega),Aj (by omega) (by omega),Qg ha' hb',Zm ha' hb']
 refine⟨_,rfl,_,rfl,fun x y=>?_,fun i hi=>?_⟩
 ·unfold Wc
  by_cases e:x=a∧y=b
  ·rw[if_pos e]
   obtain⟨rfl,rfl⟩:=e
   by_cases hc:f x y≤(ele E (k:Int)).wt - pace * (ele E (k:Int)).bk
   ·exact .inr ⟨_,Cv hk,ha,hb,by omega⟩
   ·rw[show max (f x y) ((ele E (k:Int)).wt - pace * (ele E (k:Int)).bk)=f x y from by omega]
    exact hf.src x y
  ·rw[if_neg e];exact hf.src x y
 ·unfold Wc
  by_cases e:(ele E (i:Int)).fr.toNat=a∧(ele E (i:Int)).to.toNat=b
  ·rw[if_pos e]
   by_cases e2:i=k
   ·subst e2;omega
   ·have:=hf.has i (by omega)
    rw[e.1,e.2] at this
    omega
  ·rw[if_neg e]
   by_cases e2:i=k
   ·subst e2;exact absurd ⟨by omega,by omega⟩ e
   ·exact hf.has i (by omega)
def fwS (k i j:Nat) (f:Nat→Nat→Int):Nat→Nat→Int:=if f i k>nev∧f k j>nev then Wc f i j (max (f i j) (min (f i k+f k j) 1048576)) else f
theorem Apn {n:Nat} (hn:n≤16) (Q:Nat→Nat→Nat→(Nat→Nat→Int)→Prop) (bd:∀ k i j f,Q k i j f→∀ a b,nev≤f a b∧f a b≤1048576) (step:∀ k i j f,k<n→i<n→j<n→Q k i j f→Q k i (j+1) (fwS k i j f))
  (ej:∀ k i f,k<n→i<n→Q k i n f→Q k (i+1) 0 f) (ei:∀ k f,k<n→Q k n 0 f→Q (k+1) 0 0 f) (f0:Nat→Nat→Int) (h0:Q 0 0 0 f0):∃ f,lp (E0 (n:Int)) (Jk n f0,0)=some (.go (Jk n f,(n:Int)))∧Q n 0 0 f:=by
 have hj:∀ k i f,k<n→i<n→Q k i 0 f→∃ f',lp (D7 (n:Int) (k:Int) (i:Int)) (Jk n f,0)=some (.go (Jk n f',(n:Int)))∧Q k i n f':=by
  intro k i f hk hi hq
  have X:=Kl (f:=D7 (n:Int) (k:Int) (i:Int)) (n:=n) (fun j g=>∃ f,g=Jk n f∧Q k i j f) (fun j g hj hg=>by
   obtain⟨f,rfl,hf⟩:=hg
   have b1:=bd _ _ _ _ hf i k
   have b2:=bd _ _ _ _ hf k j
   unfold nev at b1 b2
   unfold D7
   simp only
   rw[Bu (by omega),Av (by omega) (by rw[Kr];omega),Av (by omega) (by rw[I3 hi];omega),Fb (fun _=>⟨by omega,by rw[Kr];omega⟩),Fb (fun _=>⟨by omega,by rw[I3 hk];omega⟩),Qg hi hk,Qg hk hj,Qg hi hj]
   by_cases hc:f i k>nev∧f k j>nev
   ·have hc':(decide (f i k > -1099511627776)&&decide (f k j > -1099511627776))=true:=by
     unfold nev at hc
     simp only[Bool.and_eq_true,decide_eq_true_eq];exact hc
    rw[hc',br_true,Av (by omega) (by rw[Kr];omega),Av (by omega) (by rw[Kr];omega),Av (by omega) (by rw[I3 hi];omega),Av (by omega) (by rw[Kr];omega),Av (by omega) (by rw[I3 hi];omega),Av (by omega) (by rw[Kr];omega),Av (by omega) (by rw[I3 hk];omega),Aj (by omega) (by omega),Av (by omega) (by rw[I3 hi];omega),Aj (by omega) (by omega),Zm hi hj]
    exact⟨_,rfl,_,rfl,by have:=step k i j f hk hi hj hf;unfold fwS at this;rw[if_pos hc] at this;exact this⟩
   ·have hc':(decide (f i k > -1099511627776)&&decide (f k j > -1099511627776))=false:=by
     unfold nev at hc
     rw[Bool.and_eq_false_iff,decide_eq_false_iff_not,decide_eq_false_iff_not];omega
    rw[hc',br_false,Aj (by omega) (by omega)]
    exact⟨_,rfl,_,rfl,by have:=step k i j f hk hi hj hf;unfold fwS at this;rw[if_neg hc] at this;exact this⟩) (fun g=>by unfold D7;exact Bt (by omega)) _ ⟨f,rfl,hq⟩
  obtain⟨g,e1,f',rfl,e2⟩:=X
  exact⟨f',e1,e2⟩
 have hi:∀ k f,k<n→Q k 0 0 f→∃ f',lp (Ez (n:Int) (k:Int)) (Jk n f,0)=some (.go (Jk n f',(n:Int)))∧Q k n 0 f':=by
  intro k f hk hq
  have X:=Kl (f:=Ez (n:Int) (k:Int)) (n:=n) (fun i g=>∃ f,g=Jk n f∧Q k i 0 f) (fun i g hi hg=>by
   obtain⟨f,rfl,hf⟩:=hg
   obtain⟨f',e1,e2⟩:=hj k i f hk hi hf
   unfold Ez
   simp only
   rw[Bu (by omega),e1,bd_ret,Out.on_go,Aj (by omega) (by omega)]
   exact⟨_,rfl,_,rfl,ej k i f' hk hi e2⟩) (fun g=>by unfold Ez;exact Bt (by omega)) _ ⟨f,rfl,hq⟩
  obtain⟨g,e1,f',rfl,e2⟩:=X
  exact⟨f',e1,e2⟩
 have X:=Kl (f:=E0 (n:Int)) (n:=n) (fun k g=>∃ f,g=Jk n f∧Q k 0 0 f) (fun k g hk hg=>by
  obtain⟨f,rfl,hf⟩:=hg
  obtain⟨f',e1,e2⟩:=hi k f hk hf
  unfold E0
  simp only
  rw[Bu (by omega),e1,bd_ret,Out.on_go,Aj (by omega) (by omega)]
  exact⟨_,rfl,_,rfl,ei k f' hk e2⟩) (fun g=>by unfold E0;exact Bt (by omega)) _ ⟨f0,rfl,h0⟩
 obtain⟨g,e1,f',rfl,e2⟩:=X
 exact⟨f',e1,e2⟩
def PotE (E:List Edg) (pace:Int) (τ:Nat→Int):Prop:=∀ e∈E,τ e.fr.toNat+(e.wt - pace * e.bk)≤τ e.to.toNat
def nwF (k:Nat) (f:Nat→Nat→Int) (a b:Nat):Int:=if f a k>nev∧f k b>nev then max (f a b) (f a k+f k b) else f a b
structure Cl (n:Nat) (k:Nat) (f:Nat→Nat→Int):Prop where
 dg:∀ a,a<n→f a a≤0
 up:∀ a b,a<n→b<n→f a b≤6 * 2 ^ k
 lo:∀ a b,a<n→b<n→f a b>nev→-(6400 * 2 ^ k)≤f a b
 tri:∀ m,m<k→∀ a b,a<n→b<n→f a m>nev→f m b>nev→f a m+f m b≤f a b
def StF (n k i j:Nat) (f:Nat→Nat→Int):Prop:=∃ f0,Cl n k f0∧∀ a b,a<n→b<n→f a b=if a<i∨(a=i∧b<j) then nwF k f0 a b else f0 a b
structure FwQ (n:Nat) (E:List Edg) (pace:Int) (k i j:Nat) (f:Nat→Nat→Int):Prop where
 bd:∀ a b,nev≤f a b∧f a b≤1048576
 pot:∀ τ,PotE E pace τ→∀ a b,f a b>nev→f a b≤τ b - τ a
 has:∀ e∈E,e.wt - pace * e.bk≤f e.fr.toNat e.to.toNat
 cl:(∃ a,a<n∧f a a>0)∨StF n k i j f
theorem An7 {k:Nat} (h:k≤15):(1:Int)≤2 ^ k∧(2:Int) ^ k≤32768∧(2:Int) ^ (k+1)=2 * 2 ^ k:=by
 have key:∀ k:Fin 16,(1:Int)≤2 ^ (k:Nat)∧(2:Int) ^ (k:Nat)≤32768:=by decide
 have:=key ⟨k,by omega⟩
 exact⟨this.1,this.2,by rw[Int.pow_succ];omega⟩
theorem nw_ge {k:Nat}{f:Nat→Nat→Int} (a b:Nat):f a b≤nwF k f a b:=by unfold nwF;split <;> omega
theorem Ajg {n k:Nat}{f:Nat→Nat→Int} (h:Cl n k f) (hk:k<n) (a:Nat):nwF k f a k=f a k:=by
 unfold nwF;have:=h.dg k hk;split <;> omega
theorem Ajf {n k:Nat}{f:Nat→Nat→Int} (h:Cl n k f) (hk:k<n) (b:Nat):nwF k f k b=f k b:=by
 unfold nwF;have:=h.dg k hk;split <;> omega
theorem Aiv {k:Nat}{f:Nat→Nat→Int} (a b:Nat):nwF k f a b=f a b∨(nwF k f a b=f a k+f k b∧f a k>nev∧f k b>nev):=by
 unfold nwF
 split
 ·rename_i h
  by_cases e:f a k+f k b≤f a b
  ·left;omega
  ·right;exact⟨by omega,h⟩
 ·exact .inl rfl
theorem Aad {k:Nat}{f:Nat→Nat→Int}{a b:Nat} (h1:f a k>nev) (h2:f k b>nev):f a k+f k b≤nwF k f a b:=by
 unfold nwF;rw[if_pos ⟨h1,h2⟩];omega
theorem Cl.next {n k:Nat}{f:Nat→Nat→Int} (h:Cl n k f) (hk:k<n) (hn:n≤16) (hd:∀ a,a<n→nwF k f a a≤0):Cl n (k+1) (nwF k f):=by
 have hp:=An7 (show k≤15 by omega)
 have hfin:∀ a b c,a<n→b<n→c<n→f a b>nev→f b c>nev→f a b+f b c>nev∧-(6400 * 2 ^ (k+1))≤f a b+f b c:=fun a b c ha hb hc h1 h2=>by
  have l1:=h.lo a b ha hb h1;have l2:=h.lo b c hb hc h2
  unfold nev
  omega
 refine⟨hd,fun a b ha hb=>?_,fun a b ha hb h1=>?_,fun m hm a b ha hb h1 h2=>?_⟩
 ·have u1:=h.up a b ha hb;have u2:=h.up a k ha hk;have u3:=h.up k b hk hb
  unfold nwF
  split <;> omega
 ·rcases Aiv (k:=k) (f:=f) a b with e | ⟨e,p1,p2⟩
  ·rw[e] at h1 ⊢
   have:=h.lo a b ha hb h1
   omega
  ·rw[e];exact(hfin a k b ha hk hb p1 p2).2
 ·by_cases e:m=k
  ·subst e
   rw[Ajg h hk] at h1 ⊢
   rw[Ajf h hk] at h2 ⊢
   exact Aad h1 h2
  ·have hmk:m<k:=by omega
   have hmn:m<n:=by omega
   rcases Aiv (k:=k) (f:=f) a m with e1 | ⟨e1,p1,p2⟩ <;> rcases Aiv (k:=k) (f:=f) m b with e2 | ⟨e2,q1,q2⟩
   ·rw[e1] at h1 ⊢;rw[e2] at h2 ⊢
    exact Int.le_trans (h.tri m hmk a b ha hb h1 h2) (nw_ge a b)
   ·rw[e1] at h1 ⊢;rw[e2]
    have t1:=h.tri m hmk a k ha hk h1 q1
    have hf:=(hfin a m k ha hmn hk h1 q1).1
    have:=Aad (a:=a) (b:=b) (show f a k>nev by omega) q2
    omega
   ·rw[e1];rw[e2] at h2 ⊢
    have t1:=h.tri m hmk k b hk hb p2 h2
    have hf:=(hfin k m b hk hmn hb p2 h2).1
    have:=Aad (a:=a) (b:=b) p1 (show f k b>nev by omega)
    omega
   ·rw[e1,e2]
    have t1:=h.tri m hmk k k hk hk p2 q1
    have:=Aad (a:=a) (b:=b) p1 q2
    have:=h.dg k hk
    omega
theorem StF.step {n k i j:Nat}{f:Nat→Nat→Int} (hn:n≤16) (hk:k<n) (hi:i<n) (hj:j<n) (h:StF n k i j f):StF n k i (j+1) (fwS k i j f):=by
 obtain⟨f0,hc,hf⟩:=h
 have hp:=An7 (show k≤15 by omega)
 have e1:f i k=f0 i k:=by rw[hf i k hi hk];split;exact Ajg hc hk i;rfl
 have e2:f k j=f0 k j:=by rw[hf k j hk hj];split;exact Ajf hc hk j;rfl
 have e3:f i j=f0 i j:=by rw[hf i j hi hj,if_neg (by omega)]
 have u2:=hc.up i k hi hk;have u3:=hc.up k j hk hj
 refine⟨f0,hc,fun a b ha hb=>?_⟩
 have hv:fwS k i j f i j=nwF k f0 i j:=by
  unfold fwS nwF
  rw[e1,e2,e3]
  by_cases c:f0 i k>nev∧f0 k j>nev
  ·rw[if_pos c,if_pos c]
   unfold Wc
   rw[if_pos ⟨rfl,rfl⟩]
   omega
  ·rw[if_neg c,if_neg c,e3]
 by_cases e:a=i∧b=j
 ·obtain⟨rfl,rfl⟩:=e
  rw[hv,if_pos (by omega)]
 ·have:fwS k i j f a b=f a b:=by
   unfold fwS
   split
   ·unfold Wc;rw[if_neg e]
   ·rfl
  rw[this,hf a b ha hb]
  by_cases c:a<i∨(a=i∧b<j)
  ·rw[if_pos c,if_pos (by omega)]
  ·rw[if_neg c,if_neg (by omega)]
theorem Ajm {k i j:Nat}{f:Nat→Nat→Int} (a b:Nat):f a b≤fwS k i j f a b:=by
 unfold fwS
 split
 ·unfold Wc
  split
  ·rename_i h;obtain⟨rfl,rfl⟩:=h;omega
  ·exact Int.le_refl _
 ·exact Int.le_refl _
theorem FwQ.step {n:Nat}{E:List Edg}{pace:Int} (hn:n≤16) {k i j:Nat}{f:Nat→Nat→Int} (hk:k<n) (hi:i<n) (hj:j<n) (h:FwQ n E pace k i j f):FwQ n E pace k i (j+1) (fwS k i j f):=by
 refine⟨fun a b=>?_,fun τ hτ a b=>?_,fun e he=>Int.le_trans (h.has e he) (Ajm _ _),?_⟩
 ·have b1:=h.bd a b;have b2:=h.bd i j
  unfold fwS
  split
  ·unfold Wc
   split
   ·unfold nev at *;omega
   ·exact b1
  ·exact b1
 ·have p1:=h.pot τ hτ a b
  unfold fwS
  split
  ·rename_i hc
   have q1:=h.pot τ hτ i k hc.1;have q2:=h.pot τ hτ k j hc.2
   unfold Wc
   split
   ·rename_i e
    obtain⟨rfl,rfl⟩:=e
    intro hh
    by_cases g:f a b>nev
    ·have:=p1 g;omega
    ·have:=h.bd a b
     omega
   ·exact p1
  ·exact p1
 ·rcases h.cl with ⟨a,ha,h1⟩ | h1
  ·exact .inl ⟨a,ha,Int.lt_of_lt_of_le h1 (Ajm a a)⟩
  ·exact .inr (h1.step hn hk hi hj)
theorem FwQ.ej {n:Nat}{E:List Edg}{pace:Int}{k i:Nat}{f:Nat→Nat→Int} (h:FwQ n E pace k i n f):FwQ n E pace k (i+1) 0 f :=
 { h with cl:=h.cl.imp id fun ⟨f0,hc,hf⟩=>⟨f0,hc,fun a b ha hb=>by
   rw[hf a b ha hb]
   by_cases c:a<i∨(a=i∧b<n)
   ·rw[if_pos c,if_pos (by omega)]
   ·rw[if_neg c,if_neg (by omega)]⟩ }
theorem FwQ.ei {n:Nat}{E:List Edg}{pace:Int} (hn:n≤16) {k:Nat}{f:Nat→Nat→Int} (hk:k<n) (h:FwQ n E pace k n 0 f):FwQ n E pace (k+1) 0 0 f:=by
 refine { h with cl:=?_ }
 rcases h.cl with h1 | ⟨f0,hc,hf⟩
 ·exact .inl h1
 ·by_cases hd:∃ a,a<n∧f a a>0
  ·exact .inl hd
  ·have he:∀ a b,a<n→b<n→f a b=nwF k f0 a b:=fun a b ha hb=>by rw[hf a b ha hb,if_pos (.inl ha)]
   exact .inr ⟨nwF k f0,hc.next hk hn fun a ha=>by rw[←he a a ha ha];exact Int.not_lt.1 fun h=>hd ⟨a,ha,h⟩,fun a b ha hb=>by rw[he a b ha hb,if_neg (by omega)]⟩
def mxN (g:Nat→Int):Nat→Int
 | 0=>0
 | n+1=>max (mxN g n) (g n)
theorem Ajj (g:Nat→Int):∀ n a,a<n→g a≤mxN g n
 | n+1,a,h=>by
  show g a≤max (mxN g n) (g n)
  by_cases e:a=n
  ·subst e;omega
  ·have:=Ajj g n a (by omega);omega
theorem Aji (g:Nat→Int):∀ n,0≤mxN g n
 | 0=>Int.le_refl _
 | n+1=>by have:=Aji g n;show 0≤max (mxN g n) (g n);omega
theorem Ajh (g:Nat→Int):∀ n,mxN g n=0∨∃ a,a<n∧mxN g n=g a∧0<g a
 | 0=>.inl rfl
 | n+1=>by
  show max (mxN g n) (g n)=0∨∃ a,a<n+1∧max (mxN g n) (g n)=g a∧0<g a
  have h0:=Aji g n
  by_cases e:g n≤mxN g n
  ·rw[show max (mxN g n) (g n)=mxN g n from by omega]
   rcases Ajh g n with h | ⟨a,ha,h⟩
   ·exact .inl h
   ·exact .inr ⟨a,by omega,h⟩
  ·exact .inr ⟨n,by omega,by omega,by omega⟩
def P8 (E:List Edg) (pace:Int):Prop:=∃ τ,PotE E pace τ
theorem Apo {n:Nat}{E:List Edg}{pace:Int} (hE:∀ e∈E,EdgeIn n e) (hp:1≤pace∧pace≤200) {f:Nat→Nat→Int} (h:FwQ n E pace n 0 0 f) (hd:∀ a,a<n→f a a≤0):PotE E pace fun b=>mxN (fun a=>f a b) n:=by
 intro e he
 have hin:=hE e he
 have hw:=Yv hin hp
 have h1:=h.has e he
 have hf:e.fr.toNat<n:=by have:=hin.fr;omega
 have ht:e.to.toNat<n:=by have:=hin.to;omega
 generalize e.fr.toNat=a at *
 generalize e.to.toNat=b at *
 rcases h.cl with ⟨x,hx,h2⟩ | ⟨f0,hc,hf0⟩
 ·have:=hd x hx;omega
 ·have ef:∀ x y,x<n→y<n→f x y=f0 x y:=fun x y hx hy=>by rw[hf0 x y hx hy,if_neg (by omega)]
  show mxN (fun x=>f x a) n+(e.wt - pace * e.bk)≤mxN (fun x=>f x b) n
  have g1:=Ajj (fun x=>f x b) n
  rcases Ajh (fun x=>f x a) n with h2 | ⟨x,hx,h2,h3⟩
  ·have:=g1 a hf
   omega
  ·have:=g1 x hx
   have t:=hc.tri a hf x b hx ht (by rw[←ef x a hx hf];unfold nev;omega) (by rw[←ef a b hf ht];unfold nev;omega)
   rw[←ef x a hx hf,←ef a b hf ht,←ef x b hx ht] at t
   omega
theorem Akj {n:Nat}{E:List Edg}{pace:Int}{f:Nat→Nat→Int} (h:FwQ n E pace n 0 0 f) (hp:P8 E pace) (a:Nat):f a a≤0:=by
 obtain⟨τ,hτ⟩:=hp
 by_cases c:f a a>nev
 ·have:=h.pot τ hτ a a c;omega
 ·unfold nev at c;omega
theorem Akf {n:Nat} (hn:n≤16) {E:List Edg} (hE:∀ e∈E,EdgeIn n e) (hl:E.length≤60000) {pace:Int} (hp:1≤pace∧pace≤200):Iw (n:Int) E pace=some (tb (P8 E pace)):=by
 obtain⟨g,e1,f0,rfl,e2⟩:=Ae4 hE hl hp
 have hq:FwQ n E pace 0 0 0 f0:=by
  refine⟨fun a b=>?_,fun τ hτ a b hc=>?_,fun e he=>?_,?_⟩
  ·rcases e2.src a b with h | ⟨e,he,_,_,h⟩
   ·rw[h];unfold nev;omega
   ·have:=Yv (hE e he) hp;rw[h];unfold nev;omega
  ·rcases e2.src a b with h | ⟨e,he,h3,h4,h⟩
   ·omega
   ·have:=hτ e he
    rw[h3,h4] at this
    simp only[Int.toNat_natCast] at this
    omega
  ·obtain⟨i,hi,rfl⟩:=Ni he
   exact e2.has i hi
  ·by_cases hd:∃ a,a<n∧f0 a a>0
   ·exact .inl hd
   ·refine .inr ⟨f0,⟨fun a ha=>Int.not_lt.1 fun h=>hd ⟨a,ha,h⟩,fun a b ha hb=>?_,fun a b ha hb hc=>?_,fun m hm=>absurd hm (Nat.not_lt_zero _)⟩,fun a b ha hb=>by rw[if_neg (by omega)]⟩
    ·rcases e2.src a b with h | ⟨e,he,_,_,h⟩
     ·rw[h];unfold nev;simp
     ·have:=Yv (hE e he) hp;rw[h];simp;omega
    ·rcases e2.src a b with h | ⟨e,he,_,_,h⟩
     ·omega
     ·have:=Yv (hE e he) hp;rw[h];simp;omega
 obtain⟨f,e3,e4⟩:=Apn hn (FwQ n E pace) (fun k i j f h=>h.bd) (fun k i j f hk hi hj h=>h.step hn hk hi hj) (fun k i f _ _ h=>h.ej) (fun k f hk h=>h.ei hn hk) f0 hq
 unfold Iw
 simp only[Int.toNat_natCast]
 rw[Ao (by omega),Ao (Aip (by omega)),Ahs hn,bd_ret,Out.on_go]
 simp only
 rw[e1,bd_ret,Out.on_go]
 simp only
 rw[e3,bd_ret,Out.on_go]
 simp only
 have bd:=e4.bd
 rcases Mt (f:=Fk (n:Int) (Jk n f)) (n:=n) (p:=fun i=>f i i≤0) (fun i hi _=>by
   unfold Fk
   rw[Bu (by omega),Av (by omega) (by rw[Kr];omega),Av (by omega) (by rw[I3 hi];omega),Qg hi hi]
   exact⟨fun h=>by rw[Bt (by omega),Aj (by omega) (by omega)],fun h=>by rw[Bu (by omega)]⟩) (by unfold Fk;exact Bt (by omega)) with ⟨h1,e5⟩ | ⟨h1,e5⟩
 ·rw[e5,bd_ret,Out.on_go,Cc (p:=P8 E pace) ⟨_,Apo hE hp e4 h1⟩]
 ·rw[e5,bd_ret,Out.on_ret,B0 fun hh:P8 E pace=>h1 fun i hi=>Akj e4 hh i]
def Kz (l:Lp) (t:Tgt):Nat→Int
 | 0=>0
 | k+1=>Kz l t k+Cn t (ele l.body (k:Int)).op
def Ki (l:Lp) (t:Tgt):Int:=Kz l t l.body.length
theorem P9 {t:Tgt} (ht:Cu t=true) (op:Int):1≤Cn t op∧Cn t op≤6:=by
 unfold Cn
 rw[if_pos ht]
 rw[Dj] at ht
 exact S8 (by omega) (by omega) (by omega)
theorem Oj {l : Lp} {t : Tgt} (ht : Cu t = true) {i j : Nat} (h : i ≤ j) : Kz l t i + ((j : Int) - i) ≤ Kz l t j := by
  induction j with
  | zero => have : i = 0 := by omega
            subst this; omega
  | succ j ih =>
    by_cases e : i = j + 1
    · subst e; omega
    · have := ih (by omega)
      have hw := (P9 ht (ele l.body (j : Int)).op).1
      show _ ≤ Kz l t j + Cn t (ele l.body (j : Int)).op
      omega
theorem Me {l:Lp}{t:Tgt} (ht:Cu t=true):∀ k:Nat,(k:Int)≤Kz l t k∧Kz l t k≤6 * k
 | 0=>by show _≤(0:Int)∧(0:Int)≤_;omega
 | k+1=>by
  have:=Me (l:=l) ht k
  have hw:=P9 ht (ele l.body (k:Int)).op
  show _≤Kz l t k+Cn t (ele l.body (k:Int)).op∧Kz l t k+Cn t (ele l.body (k:Int)).op≤_
  omega
theorem Ahv {l:Lp}{t:Tgt} (ht:Cu t=true) {e:Edg} (h:EdgeP l t e):e.wt≤Cn t (ele l.body e.fr).op:=by
 obtain⟨to,h1,h2 | ⟨fr,h2,h3⟩⟩:=h
 ·obtain⟨r,hr,rfl⟩:=h2
  exact Int.le_refl _
 ·have:=h3.wt
  have hw:=(P9 ht (ele l.body e.fr).op).1
  split at this <;> omega
theorem Rs {l:Lp} (hl:LoopOk l) {t:Tgt} (ht:Cu t=true) {pace:Int} (hp:Ki l t≤pace) {e:Edg} (h:EdgeP l t e):Kz l t e.fr.toNat+(e.wt - pace * e.bk)≤Kz l t e.to.toNat:=by
 have hin:=h.in hl
 have hw:=Ahv ht h
 obtain⟨a1,a2,a3,a4,a5⟩:=hin
 have hn:=hl.2.2.1
 have b1:=Me (l:=l) ht e.to.toNat
 have hs:Kz l t (e.fr.toNat+1)=Kz l t e.fr.toNat+Cn t (ele l.body e.fr).op:=by
  show Kz l t e.fr.toNat+Cn t (ele l.body (e.fr.toNat:Int)).op=_
  rw[show ((e.fr.toNat:Nat):Int)=e.fr from by omega]
 by_cases hb:e.bk=0
 ·have hlt:=a5 hb
  have:=Oj (l:=l) ht (show e.fr.toNat+1≤e.to.toNat by omega)
  rw[hb]
  omega
 ·have:=Oj (l:=l) ht (show e.fr.toNat+1≤l.body.length by omega)
  have hm:pace * 1≤pace * e.bk:=Int.mul_le_mul_of_nonneg_left (by omega) (by have:=Me (l:=l) ht l.body.length;unfold Ki at hp;omega)
  unfold Ki at hp
  omega
theorem Abo {l:Lp} (hl:LoopOk l) {t:Tgt} (ht:Cu t=true) {E:List Edg} (hE:∀ e,e∈E↔EdgeP l t e) {pace:Int} (hp:Ki l t≤pace):P8 E pace :=
 ⟨Kz l t,fun e he=>Rs hl ht hp ((hE e).1 he)⟩
theorem W4 {ρ:Type}{f:Int→Option (Stp Int ρ)}{p:Nat→Prop}{m lo:Nat} (step:∀ i:Nat,lo≤i→i≤m→(p i→f i=some (.brk i))∧(¬p i→f i=some (.next ((i:Int)+1)))) (hm:p m):∀ (d s:Nat),lo≤s→s+d=m→∃ k:Nat,s≤k∧k≤m∧p k∧(∀ j,s≤j→j<k→¬p j)∧lp f s=some (.go (k:Int))
 | 0,s,hs,h=>by
  have:s=m:=by omega
  subst this
  exact⟨s,Nat.le_refl _,Nat.le_refl _,hm,fun j h1 h2=>by omega,C0 ((step s hs (Nat.le_refl _)).1 hm)⟩
 | d+1,s,hs,h=>by
  by_cases hp:p s
  ·exact⟨s,Nat.le_refl _,by omega,hp,fun j h1 h2=>by omega,C0 ((step s hs (by omega)).1 hp)⟩
  ·obtain⟨k,h1,h2,h3,h4,h5⟩:=W4 step hm d (s+1) (by omega) (by omega)
   refine⟨k,by omega,h2,h3,fun j h6 h7=>?_,Cr ((step s hs (by omega)).2 hp) h5⟩
   by_cases e:j=s
   ·subst e;exact hp
   ·exact h4 j (by omega) h7
theorem Ag1 {a b:Int} (ha:0≤a) (hb:1≤b):0≤Int.tmod a b∧Int.tmod a b<b:=by
 rw[Int.tmod_eq_emod_of_nonneg ha]
 exact⟨Int.emod_nonneg _ (by omega),Int.emod_lt_of_pos _ (by omega)⟩
def Hz (l:Lp) (k:Nat) (c:Int):Nat:=(List.range k).countP fun j:Nat=>decide (Fl (ele l.body (j:Int)).op=c)
theorem Lb (l:Lp) (k:Nat) (c:Int):Hz l (k+1) c=Hz l k c+if Fl (ele l.body (k:Int)).op=c then 1 else 0:=by
 unfold Hz
 rw[List.range_succ,List.countP_append,List.countP_singleton]
 by_cases h:Fl (ele l.body (k:Int)).op=c <;> simp[h]
theorem Q1 (l:Lp) (c:Int):∀ k,Hz l k c≤k
 | 0=>Nat.le_refl _
 | k+1=>by rw[Lb];have:=Q1 l c k;split <;> omega
def cdV (n u:Int):Int:=Int.tdiv (n+u - 1) u
theorem Aps {n u p:Int} (hn:0≤n) (hu:1≤u) (hu4:u≤4):cdV n u≤p↔n≤p * u:=by
 unfold cdV
 rw[Int.tdiv_eq_ediv_of_nonneg (by omega)]
 obtain h | h | h | h:u=1∨u=2∨u=3∨u=4:=by omega
 all_goals subst h;omega
theorem Ajv {n u:Int} (hn:0≤n) (hn2:n≤16) (hu:1≤u) (hu4:u≤4):0≤cdV n u∧cdV n u≤16:=by
 unfold cdV
 rw[Int.tdiv_eq_ediv_of_nonneg (by omega)]
 obtain h | h | h | h:u=1∨u=2∨u=3∨u=4:=by omega
 all_goals subst h;omega
def uB (l:Lp) (t:Tgt):Nat→Int
 | 0=>1
 | c+1=>max (uB l t c) (cdV (Hz l l.body.length c) (Dt t c))
theorem Any {l:Lp}{t:Tgt} (hn:l.body.length≤16) (ht:Cu t=true):∀ c,1≤uB l t c∧uB l t c≤16
 | 0=>by show 1≤(1:Int)∧(1:Int)≤16;omega
 | c+1=>by
  have:=Any (l:=l) hn ht c
  have h1:=Q1 l c l.body.length
  have h2:=N8 ht c
  have h3:=Ajv (n:=(Hz l l.body.length c:Int)) (by omega) (by omega) h2.1 h2.2
  show 1≤max (uB l t c) _∧max (uB l t c) _≤16
  omega
theorem Ahl {l:Lp} (hn:l.body.length≤16):lp (Fz l) (([0,0,0]:List Int),0)=some (.go ([(Hz l l.body.length 0:Int),Hz l l.body.length 1,Hz l l.body.length 2],(l.body.length:Int))):=by
 refine Ew (f:=Fz l) (fun k=>([(Hz l k 0:Int),Hz l k 1,Hz l k 2],(k:Int))) l.body.length (fun k hk=>?_) (by unfold Fz;exact Bt (by unfold ln;omega))
 have hc:=Fp (ele l.body (k:Int)).op
 have c0:=Q1 l 0 k;have c1:=Q1 l 1 k;have c2:=Q1 l 2 k
 unfold Fz
 simp only
 rw[Bu (by unfold ln;omega),Av (by omega) (by unfold ln;omega),Kf,bd_ret,Av (by omega) (by omega),Av (by omega) (by unfold ln;simp;omega),Aj (by
  obtain h | h | h:Fl (ele l.body (k:Int)).op=0∨Fl (ele l.body (k:Int)).op=1∨Fl (ele l.body (k:Int)).op=2:=by omega
  all_goals rw[h];simp[ele];omega) (by
  obtain h | h | h:Fl (ele l.body (k:Int)).op=0∨Fl (ele l.body (k:Int)).op=1∨Fl (ele l.body (k:Int)).op=2:=by omega
  all_goals rw[h];simp[ele];omega),Av (by omega) (by omega),Av (by omega) (by unfold ln;simp;omega),Aj (by omega) (by omega)]
 rw[Lb,Lb,Lb]
 obtain h | h | h:Fl (ele l.body (k:Int)).op=0∨Fl (ele l.body (k:Int)).op=1∨Fl (ele l.body (k:Int)).op=2:=by omega
 all_goals rw[h];simp[ele,upd]
theorem Aer {l:Lp} (hn:l.body.length≤16) {t:Tgt} (ht:Cu t=true):lp (Fy t [(Hz l l.body.length 0:Int),Hz l l.body.length 1,Hz l l.body.length 2]) (1,0)=some (.go (uB l t 3,3)):=by
 refine Ew (f:=Fy t [(Hz l l.body.length 0:Int),Hz l l.body.length 1,Hz l l.body.length 2]) (fun c=>(uB l t c,(c:Int))) 3 (fun c hc=>?_) (by unfold Fy;exact Bt (by omega))
 have h1:=Q1 l c l.body.length
 have h2:=N8 ht c
 have h3:=Ajv (n:=(Hz l l.body.length c:Int)) (by omega) (by omega) h2.1 h2.2
 have he:ele [(Hz l l.body.length 0:Int),Hz l l.body.length 1,Hz l l.body.length 2] (c:Int)=(Hz l l.body.length c:Int):=by
  obtain h | h | h:c=0∨c=1∨c=2:=by omega
  all_goals subst h;rfl
 have hu:Bi t.u0 t.u1 t.u2 (c:Int)=Dt t c:=rfl
 have hd:Int.tdiv ((Hz l l.body.length c:Int)+Dt t c - 1) (Dt t c)=cdV (Hz l l.body.length c) (Dt t c):=rfl
 unfold Fy
 simp only
 rw[Bu (by omega),he,hu,hd,Av (by omega) (by omega),Av (by omega) (by omega),Aj (by omega) (by omega),Aj (by omega) (by omega),Av (by omega) (by omega),Ao (by omega),Aj (by omega) (by omega),Aj (by omega) (by omega)]
 rfl
theorem Anu {l:Lp} (hl:LoopOk l) {t:Tgt} (ht:Cu t=true) {E:List Edg} (he:D4 l t=some (E,0)) (hE:∀ e,e∈E↔EdgeP l t e) (hEl:E.length≤60000) :
  ∃ L:Nat,1≤L∧(L:Int)≤Ki l t∧P8 E L∧(∀ j:Nat,1≤j→j<L→¬P8 E j)∧Jy l t=some (uB l t 3,(L:Int),0):=by
 have hn:=hl.2.2.1
 have hn1:=hl.2.1
 have hb:=Me (l:=l) ht l.body.length
 obtain⟨m,hm⟩:=Int.eq_ofNat_of_zero_le (show 0≤Ki l t by unfold Ki;omega)
 have hm1:1≤m:=by unfold Ki at hm;omega
 have hm2:m≤96:=by unfold Ki at hm;omega
 have hin:∀ e∈E,EdgeIn l.body.length e:=fun e he=>((hE e).1 he).in hl
 obtain⟨L,h1,h2,h3,h4,h5⟩:=W4 (f:=Ix l (E,0)) (ρ:=Empty) (m:=m) (lo:=1) (p:=fun i=>P8 E (i:Int)) (fun i h0 hi=>by
  unfold Ix ln
  rw[Akf hn hin hEl (by omega),bd_ret]
  exact⟨fun h=>by rw[Cc h];rfl,fun h=>by rw[B0 h,Bool.not_false,br_true,Aj (by omega) (by omega)]⟩) (Abo hl ht hE (by omega)) (m - 1) 1 (by omega) (by omega)
 refine⟨L,h1,by omega,h3,h4,?_⟩
 unfold Jy
 rw[he,bd_ret,show (((E,(0:Int)):List Edg×Int).2 != 0)=false from rfl,br_false,Ahl hn,bd_ret,Out.on_go]
 simp only
 rw[Ao (by rfl),Aer hn ht,bd_ret,Out.on_go]
 simp only
 rw[show (1:Int)=((1:Nat):Int) from rfl,h5,bd_ret,Out.on_go]
def Oy (g:Nat→Nat):Nat→Nat
 | 0=>0
 | n+1=>Oy g n+g n
theorem Acm (g h:Nat→Nat):∀ n,Oy (fun s=>g s+h s) n=Oy g n+Oy h n
 | 0=>rfl
 | n+1=>by show Oy _ n+(g n+h n)=(Oy g n+g n)+(Oy h n+h n);rw[Acm g h n];omega
theorem Q5:∀ n,Oy (fun _=>0) n=0
 | 0=>rfl
 | n+1=>by show Oy _ n+0=0;rw[Q5 n]
theorem O8 {g h:Nat→Nat}:∀ {n},(∀ s,s<n→g s=h s)→Oy g n=Oy h n
 | 0,_=>rfl
 | n+1,e=>by show Oy g n+g n=Oy h n+h n;rw[O8 fun s hs=>e s (by omega),e n (by omega)]
theorem Acl {k:Nat}:∀ {n},k<n→Oy (fun s=>if s=k then 1 else 0) n=1
 | n+1,h=>by
  show Oy _ n+(if n=k then 1 else 0)=1
  by_cases e:n=k
  ·subst e
   rw[if_pos rfl,O8 (h:=fun _=>0) fun s hs=>if_neg (by omega),Q5]
  ·rw[if_neg e,Acl (by omega)]
theorem Zc {l:Lp}{p:Pln}{P:Nat} (hP:p.pace=P) (h1:1≤P) (c:Int):∀ k:Nat,(∀ j:Nat,j<k→0≤ele p.times (j:Int))→Oy (fun s=>Jn l p k ((s:Int),c)) P=Hz l k c
 | 0,_=>by
  show Oy (fun s=>0) P=0
  exact Q5 P
 | k+1,h=>by
  have ih:=Zc (l:=l) hP h1 c k fun j hj=>h j (by omega)
  have h0:=h k (by omega)
  rw[Lb,←ih,show (fun s:Nat=>Jn l p (k+1) ((s:Int),c))=fun s:Nat=>Jn l p k ((s:Int),c)+(if E9 l p k=((s:Int),c) then 1 else 0) from funext fun s=>Ho l p k _,Acm]
  congr 1
  unfold E9
  by_cases e:Fl (ele l.body (k:Int)).op=c
  ·rw[if_pos e]
   have hm:=Ag1 (a:=ele p.times (k:Int)) h0 (show 1≤p.pace by omega)
   obtain⟨s0,hs0⟩:=Int.eq_ofNat_of_zero_le hm.1
   refine Eq.trans (O8 fun s hs=>?_) (Acl (k:=s0) (n:=P) (by omega))
   rw[hs0,e]
   by_cases q:s=s0
   ·subst q;rw[if_pos rfl,if_pos rfl]
   ·rw[if_neg q,if_neg]
    intro hh
    simp only[Prod.mk.injEq] at hh
    exact q (by omega)
  ·rw[if_neg e,O8 (h:=fun _=>0),Q5]
   intro s hs
   exact if_neg fun hh=>e (Prod.mk.inj hh).2
noncomputable def G0 (pace:Int) (edges:List Edg) (v6_7:List Int) (x23_7:Int):(Int×Int)→Option (Stp (Int×Int) (Empty)):=fun (time13_8,x30_8) =>
 br (decide (x30_8<(ln edges))) (
 ck (IX x30_8 (ln edges)) <|
 br (((ele edges x30_8).to==x23_7)&&(decide ((ele edges x30_8).fr<x23_7))) (
 ck (IX ((ele edges x30_8).fr) (ln v6_7)) <|
 ck (IR ((ele v6_7 ((ele edges x30_8).fr))+(ele edges x30_8).wt)) <|
 ck (IR (pace * (ele edges x30_8).bk)) <|
 ck (IR (((ele v6_7 ((ele edges x30_8).fr))+(ele edges x30_8).wt) - (pace * (ele edges x30_8).bk))) <|
 ck (IR (x30_8+1)) <|
 some (.next ((max time13_8 (((ele v6_7 ((ele edges x30_8).fr))+(ele edges x30_8).wt) - (pace * (ele edges x30_8).bk))),(x30_8+1)))) (
 ck (IR (x30_8+1)) <|
 some (.next (time13_8,(x30_8+1))))) (
 some (.brk (time13_8,x30_8)))
noncomputable def Ir (t:Tgt) (pace:Int) (m5n_7:List ((Int×Int)×Int)) (x24:Int):Int→Option (Stp (Int) (Empty)):=fun time13_9 =>
 ck (pace≠0) <|
 ck (IX x24 3) <|
 br (decide ((Dm m5n_7 ((Int.tmod time13_9 pace),x24) 0)≥(Bi t.u0 t.u1 t.u2 x24))) (
 ck (IR (time13_9+1)) <|
 some (.next (time13_9+1))) (
 some (.brk time13_9))
noncomputable def Fs (l:Lp) (t:Tgt) (pace:Int) (edges:List Edg):((List Int)×(List ((Int×Int)×Int))×Int)→Option (Stp ((List Int)×(List ((Int×Int)×Int))×Int) (Empty)):=fun (v6_7,m5n_7,x23_7) =>
 br (decide (x23_7<(ln l.body))) (
 ck (IX x23_7 (ln l.body)) <|
 bd (lp (G0 pace edges v6_7 x23_7) (0,0)) fun o19=>o19.on (fun (time13_8,x30_8) =>
 bd (Dg ((ele l.body x23_7).op)) fun x24 =>
 bd (lp (Ir t pace m5n_7 x24) time13_8) fun o27=>o27.on (fun time13_9 =>
 ck (pace≠0) <|
 ck (IR ((Dm m5n_7 ((Int.tmod time13_9 pace),x24) 0)+1)) <|
 ck (AL (v6_7++[time13_9]).length 8) <|
 ck (IR (x23_7+1)) <|
 some (.next ((v6_7++[time13_9]),(Es m5n_7 ((Int.tmod time13_9 pace),x24) ((Dm m5n_7 ((Int.tmod time13_9 pace),x24) 0)+1)),(x23_7+1)))) (fun r=>r.elim)) (fun r=>r.elim)) (
 some (.brk (v6_7,m5n_7,x23_7)))
noncomputable def Ff (l:Lp) (t:Tgt) (pace:Int) (edges:List Edg):Option (Pln) :=
 bd (lp (Fs l t pace edges) ([],([]:List ((Int×Int)×Int)),0)) fun o7=>o7.on (fun (v6_7,m5n_7,x23_7) =>
 some (Pln.mk pace v6_7)) (fun r=>r.elim)
noncomputable def Dx (l:Lp) (t:Tgt):((List Int)×Int×Int)→Option (Stp ((List Int)×Int×Int) (Empty)):=fun (v5_1,time9_1,x17_1) =>
 br (decide (x17_1<(ln l.body))) (
 ck (IX x17_1 (ln l.body)) <|
 ck (AL (v5_1++[time9_1]).length 8) <|
 bd (Ec t ((ele l.body x17_1).op)) fun x23 =>
 ck (IR (time9_1+x23)) <|
 ck (IR (x17_1+1)) <|
 some (.next ((v5_1++[time9_1]),(time9_1+x23),(x17_1+1)))) (
 some (.brk (v5_1,time9_1,x17_1)))
noncomputable def Fj (l:Lp) (t:Tgt) (pace:Int):Option (Pln×Int) :=
 bd (lp (Dx l t) ([],0,0)) fun o6=>o6.on (fun (v5_1,time9_1,x17_1) =>
 some ((Pln.mk pace v5_1),time9_1)) (fun r=>r.elim)
noncomputable def Hp (l:Lp) (t:Tgt) (least:Int) (x4:List Edg×Int) (x17:Pln×Int):Int→Option (Stp (Int) (Pln×Int)):=fun pace15_1 =>
 ck (IR (least+1)) <|
 br (decide (pace15_1<(max (least+1) x17.2))) (
 bd (Ff l t pace15_1 x4.1) fun x31 =>
 bd (He l t x31 x4.1) fun x36 =>
 br x36 (
 some (.ret (x31,0))) (
 ck (IR (pace15_1+1)) <|
 some (.next (pace15_1+1)))) (
 some (.brk pace15_1))
noncomputable def Ku (l:Lp) (t:Tgt) (least:Int):Option (Pln×Int) :=
 bd (D4 l t) fun x4 =>
 br (x4.2 != 0) (
 some ((Pln.mk 0 []),x4.2)) (
 br ((decide (least<1)) || (decide (least>200))) (
 some ((Pln.mk 0 []),3)) (
 bd (Jy l t) fun x14 =>
 bd (Fj l t 1) fun x17 =>
 bd (lp (Hp l t least x4 x17) (max (max least x14.1) x14.2.1)) fun o22=>o22.on (fun pace15_1 =>
 bd (Fj l t (max least x17.2)) fun x27 =>
 some (x27.1,0)) (fun r=>some r)))
def Ma (l:Lp) (t:Tgt) (pace:Int):Pln:=⟨pace,(List.range l.body.length).map (Kz l t)⟩
theorem Xk {l:Lp} (hl:LoopOk l) {t:Tgt} (ht:Cu t=true) (pace:Int):Fj l t pace=some (Ma l t pace,Ki l t):=by
 have hn:=hl.2.2.1
 have:=Ew (f:=Dx l t) (ρ:=Empty) (fun k=>((List.range k).map (Kz l t),Kz l t k,(k:Int))) l.body.length (fun k hk=>by
  have hb:=Me (l:=l) ht k
  have hw:=P9 ht (ele l.body (k:Int)).op
  unfold Dx
  simp only
  rw[Bu (by unfold ln;omega),Av (by omega) (by unfold ln;omega),Ao (AL8 (by simp;omega)),Jt,bd_ret,Aj (by omega) (by omega),Aj (by omega) (by omega),rm_succ (g:=Kz l t)]
  rfl) (by unfold Dx;exact Bt (by unfold ln;omega))
 unfold Fj
 rw[show lp (Dx l t) ([],0,0)=_ from this,bd_ret,Out.on_go]
 rfl
theorem Adj {l:Lp}{p:Pln}{n:Nat} (h:∀ i j,i<n→j<n→i≠j→E9 l p i≠E9 l p j) (κ:Int×Int):∀ k,k≤n→Jn l p k κ≤1
 | 0,_=>Nat.zero_le _
 | k+1,hk=>by
  rw[Ho]
  have ih:=Adj h κ k (by omega)
  by_cases e:E9 l p k=κ
  ·rw[if_pos e]
   have:Jn l p k κ=0:=by
    unfold Jn
    rw[List.countP_eq_zero]
    intro j hj
    have hj':=List.mem_range.1 hj
    simp only[decide_eq_true_eq]
    exact fun hh=>h j k (by omega) (by omega) (by omega) (hh.trans e.symm)
   omega
  ·rw[if_neg e];omega
theorem Abi {l:Lp} (hl:LoopOk l) {t:Tgt} (ht:Cu t=true):1≤Ki l t∧Ki l t≤96:=by
 have:=Me (l:=l) ht l.body.length
 have h1:=hl.2.1;have h2:=hl.2.2.1
 unfold Ki
 omega
theorem Qr {l:Lp} (hl:LoopOk l) {t:Tgt} (ht:Cu t=true) {pace:Int} (hp:Ki l t≤pace) (hp2:pace≤200):LegalP l t (Ma l t pace):=by
 have hab:=Abi hl ht
 have hat:∀ i:Nat,i<l.body.length→ele (Ma l t pace).times (i:Int)=Kz l t i∧0≤Kz l t i∧Kz l t i<pace:=fun i hi=>by
  have h1:=Me (l:=l) ht i
  have h2:=Oj (l:=l) ht (show i≤l.body.length by omega)
  unfold Ki at hp
  exact⟨Fa hi,by omega,by omega⟩
 have hkey:∀ i j:Nat,i<l.body.length→j<l.body.length→i<j→E9 l (Ma l t pace) i≠E9 l (Ma l t pace) j:=fun i j hi hj hij hh=>by
  have h1:=hat i hi;have h2:=hat j hj
  unfold E9 at hh
  have h3:=(Prod.mk.inj hh).1
  rw[h1.1,h2.1,show (Ma l t pace).pace=pace from rfl,Int.tmod_eq_of_lt h1.2.1 h1.2.2,Int.tmod_eq_of_lt h2.2.1 h2.2.2] at h3
  have:=Oj (l:=l) ht (show i≤j by omega)
  omega
 refine⟨hl,ht,⟨by show 1≤pace;omega,hp2⟩,by unfold Ma;simp,fun i hi=>?_,fun i hi=>?_,fun e he=>?_⟩
 ·have h1:=hat i hi
  have hb:=Me (l:=l) ht i
  have hn:=hl.2.2.1
  unfold Pr
  rw[h1.1]
  omega
 ·have h1:=Adj (l:=l) (p:=Ma l t pace) (n:=l.body.length) (fun i j hi hj hij hh=>by
   rcases Nat.lt_or_gt_of_ne hij with h | h
   ·exact hkey i j hi hj h hh
   ·exact hkey j i hj hi h hh.symm) (E9 l (Ma l t pace) i) l.body.length (Nat.le_refl _)
  have h2:=N8 ht (E9 l (Ma l t pace) i).2
  omega
 ·have hin:=he.in hl
  have hf:=hin.fr;have htt:=hin.to
  have h1:=Rs hl ht hp he
  unfold Vd
  have e1:=(hat e.fr.toNat (by omega)).1
  have e2:=(hat e.to.toNat (by omega)).1
  rw[show ((e.fr.toNat:Nat):Int)=e.fr from by omega] at e1
  rw[show ((e.to.toNat:Nat):Int)=e.to from by omega] at e2
  rw[e1,e2,show (Ma l t pace).pace=pace from rfl,Int.mul_comm]
  omega
theorem Ade {α:Type} [Inhabited α] {v:List α}{x:α}{j:Nat} (h:j<v.length):ele (v++[x]) (j:Int)=ele v (j:Int):=by
 rw[Cs,Cs,List.getD_eq_getElem?_getD,List.getD_eq_getElem?_getD,List.getElem?_append_left h]
theorem Adg {α:Type} [Inhabited α] {v:List α}{x:α}:ele (v++[x]) (v.length:Int)=x:=by
 rw[Cs,List.getD_eq_getElem?_getD];simp
theorem Ahp {l:Lp}{pace:Int}{v:List Int}{x:Int}{j:Nat} (h:j<v.length):E9 l ⟨pace,v++[x]⟩ j=E9 l ⟨pace,v⟩ j:=by
 unfold E9;rw[show (Pln.mk pace (v++[x])).times=v++[x] from rfl,Ade h]
theorem Zt {l:Lp}{pace:Int}{v:List Int}{x:Int} (κ:Int×Int):∀ k:Nat,k≤v.length→Jn l ⟨pace,v++[x]⟩ k κ=Jn l ⟨pace,v⟩ k κ
 | 0,_=>rfl
 | k+1,h=>by rw[Ho,Ho,Zt κ k (by omega),Ahp (by omega)]
theorem Ag7 {l : Lp} {t : Tgt} (hl : LoopOk l) (ht : Cu t = true) {pace : Nat} (hp : 1 ≤ pace) (hu : uB l t 3 ≤ pace) {v : List Int} {k : Nat} (hv : v.length = k) (hk : k < l.body.length) (hpos : ∀ j : Nat, j < k → 0 ≤ ele v (j : Int)) (s : Nat) :
    ∃ m : Nat, s ≤ m ∧ m < s + pace ∧ ¬ ((Jn l ⟨pace, v⟩ k (Int.tmod (m : Int) pace, Fl (ele l.body (k : Int)).op) : Int) ≥ Dt t (Fl (ele l.body (k : Int)).op)) := by
  have hc := Fp (ele l.body (k : Int)).op
  generalize hcc : Fl (ele l.body (k : Int)).op = c at *
  have hub := N8 ht c
  have hn := hl.2.2.1
  have h1 : cdV (Hz l l.body.length c) (Dt t c) ≤ pace := by
    have a0 : uB l t 3 = max (max (max 1 (cdV (Hz l l.body.length (0 : Nat)) (Dt t (0 : Nat)))) (cdV (Hz l l.body.length (1 : Nat)) (Dt t (1 : Nat)))) (cdV (Hz l l.body.length (2 : Nat)) (Dt t (2 : Nat))) := rfl
    obtain h | h | h : c = ((0 : Nat) : Int) ∨ c = ((1 : Nat) : Int) ∨ c = ((2 : Nat) : Int) := by omega
    all_goals rw [h]; omega
  rw [Aps (by omega) hub.1 hub.2] at h1
  have h2 : Hz l k c + 1 ≤ Hz l l.body.length c := by
    have e1 : Hz l (k + 1) c = Hz l k c + 1 := by rw [Lb, if_pos hcc]
    have mono : ∀ a b, a ≤ b → Hz l a c ≤ Hz l b c := fun a b hab => by
      induction b with
      | zero => have : a = 0 := by omega
                subst this; exact Nat.le_refl _
      | succ b ih =>
        by_cases e : a = b + 1
        · subst e; exact Nat.le_refl _
        · rw [Lb]; have := ih (by omega); omega
    have := mono (k + 1) l.body.length (by omega)
    omega
  obtain ⟨u, hu'⟩ := Int.eq_ofNat_of_zero_le (show 0 ≤ Dt t c by omega)
  have hsum := Zc (l := l) (p := ⟨pace, v⟩) (P := pace) rfl hp c k hpos
  by_cases hall : ∀ s, s < pace → u ≤ Jn l ⟨pace, v⟩ k ((s : Int), c)
  · exfalso
    have hge : ∀ (g : Nat → Nat) n, (∀ s, s < n → u ≤ g s) → n * u ≤ Oy g n := fun g n => by
      induction n with
      | zero => intro _; show 0 * u ≤ 0; omega
      | succ n ih =>
        intro h
        have := ih fun s hs => h s (by omega)
        have h3 := h n (by omega)
        show (n + 1) * u ≤ Oy g n + g n
        rw [Nat.succ_mul]; omega
    have := hge _ pace hall
    rw [hsum] at this
    rw [hu'] at h1
    have h4 : (Hz l l.body.length c) ≤ pace * u := by exact_mod_cast h1
    omega
  · obtain ⟨s0, hs0⟩ := Classical.not_forall.1 hall
    obtain ⟨hs1, hs2⟩ := Classical.not_imp.1 hs0
    have hm0 := Int.emod_nonneg ((s0 : Int) - s) (show (pace : Int) ≠ 0 by omega)
    have hm1 := Int.emod_lt_of_pos ((s0 : Int) - s) (show (0 : Int) < pace by omega)
    have hm2 : ((s : Int) + ((s0 : Int) - s) % pace) % pace = s0 := by
      rw [Int.add_emod_emod, show (s : Int) + ((s0 : Int) - s) = s0 from by omega, Int.emod_eq_of_lt (by omega) (by omega)]
    obtain ⟨d, hd⟩ := Int.eq_ofNat_of_zero_le hm0
    refine ⟨s + d, by omega, by omega, ?_⟩
    rw [Int.tmod_eq_emod_of_nonneg (by omega), show (((s + d : Nat) : Nat) : Int) = (s : Int) + ((s0 : Int) - s) % pace from by omega, hm2, hu']
    omega
theorem Anb {l:Lp}{t:Tgt} (hl:LoopOk l) (ht:Cu t=true) {E:List Edg} (hE:∀ e∈E,EdgeIn l.body.length e) (hEl:E.length≤60000) {pace:Nat} (hp:1≤pace) (hp2:pace≤200) (hu:uB l t 3≤pace) :
  ∃ v,Ff l t pace E=some ⟨pace,v⟩∧v.length=l.body.length:=by
 have hn:=hl.2.2.1
 have X:=S9 (ρ:=Empty) (f:=Fs l t pace E) (n:=l.body.length) (fun (g:List Int×List ((Int×Int)×Int)) i=>(g.1,g.2,i))
  (fun k g=>g.1.length=k∧(∀ j:Nat,j<k→0≤ele g.1 (j:Int)∧ele g.1 (j:Int)≤206 * k)∧∀ κ,Dm g.2 κ 0=(Jn l ⟨pace,g.1⟩ k κ:Int)) (fun k g hk hg=>?_) (fun g=>by
   unfold Fs;exact Bt (by unfold ln;omega)) ([],[]) ⟨rfl,fun j hj=>absurd hj (Nat.not_lt_zero _),fun κ=>rfl⟩
 ·obtain⟨g,e,h1,_⟩:=X
  unfold Ff
  rw[show lp (Fs l t pace E) ([],[],0)=_ from e,bd_ret,Out.on_go]
  exact⟨_,rfl,h1⟩
 ·obtain⟨v,m⟩:=g
  obtain⟨h1,h2,h3⟩:=hg
  simp only at h1 h2 h3
  have hc:=Fp (ele l.body (k:Int)).op
  have Y:=Kl (f:=G0 pace E v k) (ρ:=Empty) (n:=E.length) (fun _ g=>0≤g∧g≤206 * (k:Int)+6) (fun i g hi hg=>by
   have hin:=hE _ (Cv hi)
   have hw:=Yv hin (pace:=pace) (by omega)
   have hw2:=hin.wt
   unfold G0
   simp only
   rw[Bu (by unfold ln;omega),Av (by omega) (by unfold ln;omega)]
   by_cases hq:(ele E (i:Int)).to=k∧(ele E (i:Int)).fr<k
   ·have hfr:=hin.fr
    have hv:=h2 (ele E (i:Int)).fr.toNat (by omega)
    rw[show (((ele E (i:Int)).fr.toNat:Nat):Int)=(ele E (i:Int)).fr from by omega] at hv
    rw[show ((ele E (i:Int)).to==(k:Int)&&decide ((ele E (i:Int)).fr<(k:Int)))=true from by simp[hq],br_true,Av (by omega) (by unfold ln;omega),Aj (by omega) (by omega),Aj (by omega) (by omega),Aj (by omega) (by omega),Aj (by omega) (by omega)]
    exact⟨_,rfl,by omega⟩
   ·rw[show ((ele E (i:Int)).to==(k:Int)&&decide ((ele E (i:Int)).fr<(k:Int)))=false from by
     rw[Bool.and_eq_false_iff,beq_eq_false_iff_ne,decide_eq_false_iff_not];omega,br_false,Aj (by omega) (by omega)]
    exact⟨_,rfl,hg⟩) (fun g=>by unfold G0;exact Bt (by unfold ln;omega)) 0 (by omega)
  obtain⟨tm,e1,e2⟩:=Y
  obtain⟨s,rfl⟩:=Int.eq_ofNat_of_zero_le e2.1
  obtain⟨m0,f1,f2,f3⟩:=Ag7 hl ht hp hu h1 hk (fun j hj=>(h2 j hj).1) s
  obtain⟨x,g1,g2,g3,g4,g5⟩:=W4 (f:=Ir t pace m (Fl (ele l.body (k:Int)).op)) (ρ:=Empty) (m:=m0) (lo:=0) (p:=fun i=>¬((Jn l ⟨pace,v⟩ k (Int.tmod (i:Int) pace,Fl (ele l.body (k:Int)).op):Int)≥Dt t (Fl (ele l.body (k:Int)).op))) (fun i _ hi=>by
   unfold Ir
   rw[Ao (by omega),Av hc.1 hc.2,h3]
   exact⟨fun h=>Bt h,fun h=>by rw[show Bi t.u0 t.u1 t.u2 (Fl (ele l.body (k:Int)).op)=Dt t (Fl (ele l.body (k:Int)).op) from rfl,Bu (Classical.not_not.1 h),Aj (by omega) (by omega)]⟩) f3 (m0 - s) s (by omega) (by omega)
  have hcl:=Abd l ⟨pace,v⟩ (Int.tmod (x:Int) pace,Fl (ele l.body (k:Int)).op) k
  have hkey:E9 l ⟨pace,v++[(x:Int)]⟩ k=(Int.tmod (x:Int) pace,Fl (ele l.body (k:Int)).op):=by
   unfold E9
   rw[show (Pln.mk (pace:Int) (v++[(x:Int)])).times=v++[(x:Int)] from rfl,←h1,Adg]
  unfold Fs
  simp only
  rw[Bu (by unfold ln;omega),Av (by omega) (by unfold ln;omega),e1,bd_ret,Out.on_go]
  simp only
  rw[Kf,bd_ret,g5,bd_ret,Out.on_go,Ao (by omega),h3,Aj (by omega) (by omega),Ao (AL8 (by simp;omega)),Aj (by omega) (by omega)]
  refine⟨(v++[(x:Int)],_),rfl,by simp[h1],fun j hj=>?_,fun κ=>?_⟩
  ·by_cases e:j=k
   ·subst e
    show 0≤ele (v++[(x:Int)]) (j:Int)∧_
    rw[show ele (v++[(x:Int)]) (j:Int)=x from by rw[←h1];exact Adg]
    omega
   ·have:=h2 j (by omega)
    show 0≤ele (v++[(x:Int)]) (j:Int)∧_
    rw[Ade (by omega)]
    omega
  ·show Dm (Es _ _ _) κ 0=(Jn l ⟨pace,v++[(x:Int)]⟩ (k+1) κ:Int)
   rw[J8,Ho,hkey,Zt κ k (by omega)]
   by_cases e:(Int.tmod (x:Int) pace,Fl (ele l.body (k:Int)).op)=κ
   ·rw[if_pos e,if_pos e,e];rfl
   ·rw[if_neg e,if_neg e,h3];rfl
theorem Apz {l:Lp} (hf:l.Fine) (hl:LoopOk l) {t:Tgt} (ht:Cu t=true) {least:Int} (h1:1≤least) (h2:least≤200):∃ p,Ku l t least=some (p,0)∧LegalP l t p∧least≤p.pace∧p.pace≤max least (Ki l t):=by
 obtain⟨E,e1,e2,e3,e4,e5⟩:=Sm hl hf ht
 obtain⟨L,b1,b2,b3,b4,b5⟩:=Anu hl ht e1 e4 e5
 have hn:=hl.2.2.1
 have hu:=Any (l:=l) hn ht 3
 have ha:=Abi hl ht
 have hin:∀ e∈E,EdgeIn l.body.length e:=fun e he=>((e4 e).1 he).in hl
 unfold Ku
 rw[e1,bd_ret,show (((E,(0:Int)):List Edg×Int).2 != 0)=false from rfl,br_false,show (decide (least<1) || decide (least>200))=false from by simp;omega,br_false,b5,bd_ret,Xk hl ht,bd_ret]
 obtain⟨M,hM⟩:=Int.eq_ofNat_of_zero_le (show 0≤max (max least (uB l t 3)) (L:Int) by omega)
 obtain⟨B,hB⟩:=Int.eq_ofNat_of_zero_le (show 0≤max (least+1) (Ki l t) by omega)
 have hstep:∀ i:Nat,M≤i→(i:Int)<max (least+1) (Ki l t)→∃ v:List Int,Ff l t (i:Int) E=some ⟨i,v⟩∧v.length=l.body.length∧He l t ⟨i,v⟩ E=some (tb (Agw l t ⟨i,v⟩)):=fun i hi hb=>by
  obtain⟨v,c1,c2⟩:=Anb hl ht hin e5 (pace:=i) (by omega) (by omega) (by omega)
  exact⟨v,c1,c2,Ajn hl ht ⟨by show (1:Int)≤i;omega,by show (i:Int)≤200;omega⟩ c2 e4 e5⟩
 simp only
 rw[hM]
 rcases O4 (f:=Hp l t least (E,0) (Ma l t 1,Ki l t)) (n:=max M B) (p:=fun i=>¬Agw l t ((Ff l t (i:Int) E).getD default)) (fun i=>((Ff l t (i:Int) E).getD default,(0:Int))) (max M B - M) M (by omega) (fun i hi hb=>by
   obtain⟨v,c1,c2,c3⟩:=hstep i hi (by omega)
   unfold Hp
   rw[Aj (by omega) (by omega),Bu (by simp only;omega)]
   simp only
   rw[c1,bd_ret,c3,bd_ret]
   exact⟨fun h=>by rw[B0 (p:=Agw l t ⟨i,v⟩) h,br_false,Aj (by omega) (by omega)],fun h=>by rw[Cc (p:=Agw l t ⟨i,v⟩) (Classical.not_not.1 h),br_true];rfl⟩) (by
   unfold Hp
   rw[Aj (by omega) (by omega),Bt (by simp only;omega)]) with ⟨q1,q2⟩ | ⟨i,q1,q2,q3,_,q4⟩
 ·rw[q2,bd_ret,Out.on_go]
  rw[Xk hl ht,bd_ret]
  exact⟨_,rfl,Qr hl ht (by omega) (by omega),by show least≤max least _;omega,Int.le_refl _⟩
 ·rw[q4,bd_ret,Out.on_ret]
  obtain⟨v,c1,c2,c3⟩:=hstep i q1 (by omega)
  refine⟨_,rfl,?_⟩
  have q5:=Classical.not_not.1 q3
  rw[c1] at q5 ⊢
  simp only[Option.getD_some] at q5 ⊢
  exact⟨Ur.2 ⟨⟨hl,ht⟩,⟨by show (1:Int)≤i;omega,by show (i:Int)≤200;omega⟩,c2,q5⟩,by show least≤(i:Int);omega,by show (i:Int)≤_;omega⟩
noncomputable def Hi (l:Lp):((List Int)×Int)→Option (Stp ((List Int)×Int) (Empty)):=fun (v17_1,x35_1) =>
 br (decide (x35_1<(ln l.body))) (
 ck (AL (v17_1++[x35_1]).length 8) <|
 ck (IR (x35_1+1)) <|
 some (.next ((v17_1++[x35_1]),(x35_1+1)))) (
 some (.brk (v17_1,x35_1)))
noncomputable def Il (l:Lp) (t:Tgt) (p:Pln):Option (Krn×List Int×Bool) :=
 bd (Kd l t p) fun x5 =>
 br (x5.2 != 0) (
 some ((Krn.mk 0 0 []),[],false)) (
 bd (L3 l t p x5.1) fun x12 =>
 bd (lp (Hi l) ([],0)) fun o18=>o18.on (fun (v17_1,x35_1) =>
 bdG (x12.2==0) (Jx l t x12.1 v17_1) fun x23 =>
 some (x12.1,v17_1,((x12.2==0)&&x23))) (fun r=>r.elim))
noncomputable def Dy (l:Lp) (t:Tgt):((List Int)×Int×Int)→Option (Stp ((List Int)×Int×Int) (Empty)):=fun (v5_1,b4c0_1,x11_1) =>
 br (decide (x11_1<(ln l.body))) (
 ck (IX x11_1 (ln l.body)) <|
 ck (AL (v5_1++[b4c0_1]).length 8) <|
 bd (Ec t ((ele l.body x11_1).op)) fun x23 =>
 ck (IR (b4c0_1+x23)) <|
 ck (IR (x11_1+1)) <|
 some (.next ((v5_1++[b4c0_1]),(b4c0_1+x23),(x11_1+1)))) (
 some (.brk (v5_1,b4c0_1,x11_1)))
noncomputable def G3 (l:Lp) (t:Tgt):Option (Pln) :=
 bd (lp (Dy l t) ([],0,0)) fun o6=>o6.on (fun (v5_1,b4c0_1,x11_1) =>
 some (Pln.mk b4c0_1 v5_1)) (fun r=>r.elim)
noncomputable def Iv (l:Lp) (t:Tgt) (x13:Pln):Int→Option (Stp (Int) (Krn×List Int×Int)):=fun least8_1 =>
 br (decide (least8_1≤x13.pace)) (
 bd (Ku l t least8_1) fun x25 =>
 bd (Il l t x25.1) fun x30 =>
 br x30.2.2 (
 some (.ret (x30.1,x30.2.1,0))) (
 ck (IR (x25.1.pace+1)) <|
 ck (IR (x25.1.pace * 5)) <|
 ck (IR (Int.tdiv (x25.1.pace * 5) 4)) <|
 some (.next (max (x25.1.pace+1) (Int.tdiv (x25.1.pace * 5) 4))))) (
 some (.brk least8_1))
noncomputable def Ef (l:Lp) (t:Tgt):Option (Krn×List Int×Int) :=
 bd (Gl l) fun x4 =>
 bdG (!(!x4)) (Gc t) fun x7 =>
 br ((!x4) || (!x7)) (
 some ((Krn.mk 0 0 []),[],2)) (
 bd (G3 l t) fun x13 =>
 bd (lp (Iv l t x13) 1) fun o18=>o18.on (fun least8_1 =>
 bd (Il l t x13) fun x23 =>
 br x23.2.2 (
 some (x23.1,x23.2.1,0)) (
 some ((Krn.mk 0 0 []),[],1))) (fun r=>some r))
theorem Ady {l:Lp} (hl:LoopOk l) {t:Tgt} (ht:Cu t=true):G3 l t=some (Ma l t (Ki l t)):=by
 have hn:=hl.2.2.1
 have:=Ew (f:=Dy l t) (ρ:=Empty) (fun k=>((List.range k).map (Kz l t),Kz l t k,(k:Int))) l.body.length (fun k hk=>by
  have hb:=Me (l:=l) ht k
  have hw:=P9 ht (ele l.body (k:Int)).op
  unfold Dy
  simp only
  rw[Bu (by unfold ln;omega),Av (by omega) (by unfold ln;omega),Ao (AL8 (by simp;omega)),Jt,bd_ret,Aj (by omega) (by omega),Aj (by omega) (by omega),rm_succ (g:=Kz l t)]
  rfl) (by unfold Dy;exact Bt (by unfold ln;omega))
 unfold G3
 rw[show lp (Dy l t) ([],0,0)=_ from this,bd_ret,Out.on_go]
 rfl
theorem Anz {l:Lp} (hf:l.Fine) {t:Tgt}{p:Pln} (h:LegalP l t p) :
  (∃ v,Il l t p=some (H6 l t p v,Ea l.body.length,true)∧TakesP l t (H6 l t p v) (Ea l.body.length)) ∨
  (Il l t p=some (⟨0,0,[]⟩,[],false)∧¬∀ k,k<l.body.length→Pm ((H5 l t p).wp (spV l.body.length)) k):=by
 have hn:=h.loop.2.2.1
 unfold Il
 rcases Aev hf h with ⟨v,h1,h2,h3⟩ | ⟨h1,h2⟩
 ·refine .inl ⟨v,?_,Zi h h1 h2⟩
  have hE:=Aga h (v:=v)
  have hkf:Vc l (H6 l t p v):=Zj hf
  have X:=Ew (f:=Hi l) (ρ:=Empty) (fun i=>(Ea i,(i:Int))) l.body.length (fun i hi=>by
   unfold Hi
   simp only
   rw[Bu (by unfold ln;omega),Ao (AL8 (by rw[List.length_append,Kq];simp;omega)),Aj (by omega) (by omega),show Ea i++[(i:Int)]=Ea (i+1) from rm_succ (g:=fun i:Nat=>(i:Int))]
   rfl) (by unfold Hi;exact Bt (by unfold ln;omega))
  rw[h3,bd_ret,show (((Mq t p l.body.length v,(0:Int)):List Int×Int).2 != 0)=false from rfl,br_false,Ap1 hf t p (by unfold Mq;simp;omega),Cc hE,if_pos rfl,bd_ret,
   show lp (Hi l) ([],0)=_ from X,bd_ret,Out.on_go]
  simp only[beq_self_eq_true,bdG_t,Bool.true_and]
  rw[show Ad4 l t p (Mq t p l.body.length v)=H6 l t p v from rfl,Ahd hf hkf (by rw[Kq];omega),bd_ret,Cc (Zi h h1 h2)]
 ·refine .inr ⟨?_,h2⟩
  rw[h1,bd_ret]
  rfl
theorem Yf {l:Lp}{t:Tgt} (ht:Cu t=true):Aok l t (Ma l t (Ki l t)):=fun i hi=>by
 rw[show ele (Ma l t (Ki l t)).times (i:Int)=Kz l t i from Fa hi]
 have h2:=Oj (l:=l) ht (show i+1≤l.body.length by omega)
 have e:Kz l t (i+1)=Kz l t i+Cn t (ele l.body (i:Int)).op:=rfl
 show _≤Ki l t
 unfold Ki
 omega
def Aom (l:Lp) (t:Tgt) (p:Pln) (v:List Int):Prop:=LegalP l t p∧p.pace≤Ki l t∧TakesP l t (H6 l t p v) (Ea l.body.length)
theorem Agp {l:Lp} (hf:l.Fine) (hl:LoopOk l) {t:Tgt} (ht:Cu t=true) :
  (∃ p v,Ef l t=some (H6 l t p v,Ea l.body.length,0)∧Aom l t p v)∨(Ef l t=some (⟨0,0,[]⟩,[],1)∧t.regs<5 * (l.body.length:Int)):=by
 have hab:=Abi hl ht
 have hleg:=Qr hl ht (Int.le_refl (Ki l t)) (by omega)
 unfold Ef
 rw[Wj l hf,bd_ret,I6,Cc hl,ht]
 simp only[Bool.not_true,Bool.not_false,bdG_t,bd_ret,Bool.or_self,br_false]
 rw[Ady hl ht,bd_ret]
 obtain⟨o,e,hQ⟩:=Amn (f:=Iv l t (Ma l t (Ki l t))) (fun g=>1≤g) (fun g=>(Ki l t+1 - g).toNat) (fun o=>match o with
   | .go _=>True
   | .ret r=>∃ p v,r=(H6 l t p v,Ea l.body.length,(0:Int))∧Aom l t p v) (fun g hg=>by
   unfold Iv
   show ∃ s,br (decide (g≤Ki l t)) _ _=some s∧_
   by_cases c:g≤Ki l t
   ·rw[Bu c]
    obtain⟨p,h1,h2,h3,h4⟩:=Apz hf hl ht hg (by omega)
    have hp:=h2.pace
    rw[h1,bd_ret]
    rcases Anz hf h2 with ⟨v,q1,q2⟩ | ⟨q1,_⟩
    ·refine⟨_,by simp only;rw[q1,bd_ret];rfl,?_⟩
     exact⟨p,v,rfl,h2,by omega,q2⟩
    ·refine⟨_,by simp only;rw[q1,bd_ret];simp only;rw[br_false,Aj (by omega) (by omega),Aj (by omega) (by omega),Aj (by have:=Int.tdiv_eq_ediv_of_nonneg (show 0≤p.pace * 5 by omega) (b:=4);omega) (by have:=Int.tdiv_eq_ediv_of_nonneg (show 0≤p.pace * 5 by omega) (b:=4);omega)],?_⟩
     simp only
     omega
   ·rw[Bt c]
    exact⟨_,rfl,trivial⟩) 1 (by omega)
 rw[e,bd_ret]
 cases o with
 | ret r =>
  obtain⟨p,v,rfl,hb⟩:=hQ
  exact .inl ⟨p,v,rfl,hb⟩
 | go g =>
  rw[Out.on_go]
  rcases Anz hf hleg with ⟨v,q1,q2⟩ | ⟨q1,q2⟩
  ·refine .inl ⟨_,v,by rw[q1,bd_ret];rfl,hleg,Int.le_refl _,q2⟩
  ·refine .inr ⟨by rw[q1,bd_ret];rfl,?_⟩
   by_cases c:t.regs<5 * (l.body.length:Int)
   ·exact c
   ·exact absurd (Adn hleg (by omega) (Yf ht)) q2
theorem Z3 {l:Lp} (hf:l.Fine) {t:Tgt} (h:¬(LoopOk l∧Cu t=true)):Ef l t=some (⟨0,0,[]⟩,[],2):=by
 unfold Ef
 rw[Wj l hf,bd_ret,I6]
 by_cases h1:LoopOk l
 ·have h2:Cu t=false:=by cases c:Cu t with | true=>exact absurd ⟨h1,c⟩ h | false=>rfl
  rw[Cc h1,h2]
  rfl
 ·rw[B0 h1]
  rfl
noncomputable def Gt (a b:List Int):Int→Option (Stp (Int) (Bool)):=fun i5_1 =>
 br (decide (i5_1<(ln a))) (
 ck (IX i5_1 (ln a)) <|
 ck (IX i5_1 (ln b)) <|
 br ((ele a i5_1) != (ele b i5_1)) (
 some (.ret false)) (
 ck (IR (i5_1+1)) <|
 some (.next (i5_1+1)))) (
 some (.brk i5_1))
noncomputable def Hj (a b:List Int):Option (Bool) :=
 br ((ln a) != (ln b)) (
 some false) (
 bd (lp (Gt a b) 0) fun o4=>o4.on (fun i5_1 =>
 some true) (fun r=>some r))
def Ps (l:Lp) (b:List (List Int)):Prop:=b.length=l.body.length∧∀ i:Nat,i<b.length→(ele b (i:Int)).length=3
section
variable {l : Lp} {t : Tgt} {k : Krn} {order : List Int} {b : List (List Int)}
def Yb (y:LayD) (b:List (List Int)) (s:Nat) (R:List Int):Nat→List Int
 | 0=>R
 | q+1=>upd (Yb y b s R q) (Iy y s q) (ele (ele b (s:Int)) (q:Int))
def Rz (y:LayD) (b:List (List Int)) (n:Nat):Nat→List Int
 | 0=>List.replicate n 0
 | s+1=>Yb y b s (Rz y b n s) (Lv y.body s).toNat
theorem Tq {y:LayD}{s:Nat}{R:List Int}:∀ q,(Yb y b s R q).length=R.length
 | 0=>rfl
 | q+1=>by show (upd _ _ _).length=_;rw[Aav,Tq q]
theorem Tp {y:LayD}{n:Nat}:∀ s,(Rz y b n s).length=n
 | 0=>by show (List.replicate n 0).length=n;simp
 | s+1=>by show (Yb _ _ _ _ _).length=n;rw[Tq,Tp s]
theorem reg_bd {y:LayD} (hy:y.Ok) (s:Int) (q:Nat):0≤Iy y s q∧Iy y s q<y.regs:=by
 have hR:=hy.regs
 exact⟨Int.emod_nonneg _ (by omega),Int.emod_lt_of_pos _ (by omega)⟩
def R7 (l:Lp) (t:Tgt) (y:LayD) (b:List (List Int)) (regs:List Int) (turns:Int) (i:Nat):Int :=
 if turns=0 then ele (ele b (ele l.outs (i:Int))) 0 else ele regs ((ele y.places (ele l.outs (i:Int))+turns - 1) % t.regs)
end
noncomputable def Fg (before:List (List Int)):Int→Option (Stp (Int) (Bool)):=fun x9_1 =>
 br (decide (x9_1<(ln before))) (
 ck (IX x9_1 (ln before)) <|
 br ((ln (ele before x9_1)) != 3) (
 some (.ret false)) (
 ck (IR (x9_1+1)) <|
 some (.next (x9_1+1)))) (
 some (.brk x9_1))
noncomputable def Gh (l:Lp) (before:List (List Int)):Option (Bool) :=
 bd (lp (Fg before) 0) fun o2=>o2.on (fun x9_1 =>
 some ((ln before)==(ln l.body))) (fun r=>some r)
noncomputable def Fw (t:Tgt) (before:List (List Int)) (y9:L5) (x39_3 x40:Int):((List Int)×Int)→Option (Stp ((List Int)×Int) (Empty)):=fun (v32_4,x45_4) =>
 br (decide (x45_4<x40)) (
 ck (IX x39_3 (ln y9.2.2.2.2.2.2.2)) <|
 ck (IR ((ele y9.2.2.2.2.2.2.2 x39_3) - x45_4)) <|
 ck (IR (((ele y9.2.2.2.2.2.2.2 x39_3) - x45_4) - 1)) <|
 bd (F9 (((ele y9.2.2.2.2.2.2.2 x39_3) - x45_4) - 1) t.regs) fun x58 =>
 ck (IX x39_3 (ln before)) <|
 ck (IX x45_4 (ln (ele before x39_3))) <|
 ck (IX x58 (ln v32_4)) <|
 ck (IR (x45_4+1)) <|
 some (.next ((upd v32_4 x58 (ele (ele before x39_3) x45_4)),(x45_4+1)))) (
 some (.brk (v32_4,x45_4)))
noncomputable def Fx (l:Lp) (t:Tgt) (before:List (List Int)) (y9:L5):((List Int)×Int)→Option (Stp ((List Int)×Int) (Empty)):=fun (v32_3,x39_3) =>
 br (decide (x39_3<(ln l.body))) (
 bd (Lj l x39_3) fun x40 =>
 bd (lp (Fw t before y9 x39_3 x40) (v32_3,0)) fun o43=>o43.on (fun (v32_4,x45_4) =>
 ck (IR (x39_3+1)) <|
 some (.next (v32_4,(x39_3+1)))) (fun r=>r.elim)) (
 some (.brk (v32_3,x39_3)))
noncomputable def Hy (l:Lp) (t:Tgt) (k_:Krn) (order:List Int) (before:List (List Int)):Option (List Int×Int) :=
 bd (Gs l t k_ order) fun x4 =>
 Sy x4.1 (
 ck (x4.2=false) <|
 bdG (!(!false)) (Gh l before) fun x14 =>
 some ([],2)) fun y9 =>
 bdG (!(!x4.2)) (Gh l before) fun x20 =>
 br ((!x4.2) || (!x20)) (
 some ([],2)) (
 ck (0≤t.regs) <|
 ck (AL t.regs.toNat 8) <|
 bd (lp (Fx l t before y9) ((List.replicate t.regs.toNat (0:Int)),0)) fun o33=>o33.on (fun (v32_3,x39_3) =>
 some (v32_3,0)) (fun r=>r.elim))
noncomputable def Fv (l:Lp) (t:Tgt) (before:List (List Int)) (regs:List Int) (turns:Int) (y9:L5):((List Int)×Int)→Option (Stp ((List Int)×Int) (Empty)):=fun (v29_1,x55_1) =>
 br (decide (x55_1<(ln l.outs))) (
 ck (IX x55_1 (ln l.outs)) <|
 br (turns==0) (
 ck (IX (ele l.outs x55_1) (ln before)) <|
 ck (IX 0 (ln (ele before (ele l.outs x55_1)))) <|
 ck (AL (v29_1++[(ele (ele before (ele l.outs x55_1)) 0)]).length 8) <|
 ck (IR (x55_1+1)) <|
 some (.next ((v29_1++[(ele (ele before (ele l.outs x55_1)) 0)]),(x55_1+1)))) (
 ck (IX (ele l.outs x55_1) (ln y9.2.2.2.2.2.2.2)) <|
 ck (IR ((ele y9.2.2.2.2.2.2.2 (ele l.outs x55_1))+turns)) <|
 ck (IR (((ele y9.2.2.2.2.2.2.2 (ele l.outs x55_1))+turns) - 1)) <|
 bd (F9 (((ele y9.2.2.2.2.2.2.2 (ele l.outs x55_1))+turns) - 1) t.regs) fun x70 =>
 ck (IX x70 (ln regs)) <|
 ck (AL (v29_1++[(ele regs x70)]).length 8) <|
 ck (IR (x55_1+1)) <|
 some (.next ((v29_1++[(ele regs x70)]),(x55_1+1))))) (
 some (.brk (v29_1,x55_1)))
noncomputable def Hx (l:Lp) (t:Tgt) (k_:Krn) (order:List Int) (before:List (List Int)) (regs:List Int) (turns:Int):Option (List Int×Int) :=
 bd (Gs l t k_ order) fun x4 =>
 Sy x4.1 (
 ck (x4.2=false) <|
 bdG (!(!false)) (Gh l before) fun x14 =>
 some ([],2)) fun y9 =>
 bdG (!(!x4.2)) (Gh l before) fun x20 =>
 br (((!x4.2) || (!x20)) || ((ln regs) != t.regs)) (
 some ([],2)) (
 br ((decide (turns<0)) || (decide (turns>200))) (
 some ([],3)) (
 bd (lp (Fv l t before regs turns y9) ([],0)) fun o30=>o30.on (fun (v29_1,x55_1) =>
 some (v29_1,0)) (fun r=>r.elim)))
end Go.Rd
end