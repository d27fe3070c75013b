/- Texts for the law, 1. -/
import Derived.ChangeMaps5
import Derived.KernelRfl
import Derived.LaidLaws
import Derived.LaidMore
import Derived.Laws.OwnMore
import Derived.Lib.AppendStr
import Derived.Lib.LaidTab
import Derived.Lib.UnsafeStr
import Derived.MapKept
import Derived.Shelf.LaysC
import Derived.Shelf.LaysM
import Derived.Shelf.SlSortCmp.NoneTotal
import Derived.Shelf.Small.Wraps
import Derived.Shelf.Strconv.AtoiAll
import Derived.Shelf.Strconv.Itoa4
import Derived.Shelf.Strconv.ParseIntPublic10
import Derived.Shelf.Strconv.RangeError
import Derived.Shelf.Strings.Builder1
import Derived.Shelf.Strings.Cut
import Derived.Shelf.Strings.Fields
import Derived.Shelf.Strings.Prefix
import Derived.Shelf.Strings.Split
import Derived.Shelf.Vars
import Derived.WalkKit
import Derived.Deep.Quiet
import Derived.OrdersHeld
import Derived.Deep.LoopGhost
import Derived.ProofKit
import Derived.OpenShut
import Derived.Laws.StructEq
import Derived.Laws.Tables
import Derived.ArgAppend
import Derived.Laws.AppendOwn
import Derived.Laws.ResultCell
import Derived.Laws.IdiomStrings
import Derived.Laws.Strings
set_option linter.unusedVariables false
set_option linter.unusedSimpArgs false
set_option maxRecDepth 8000
set_option linter.defProp false
namespace Go.Rd
open Go Go.RowKit
theorem Aa {p:Prop} (h:p:=by omega):p:=h
theorem Ah {p:Prop} (h:p:=by decide):p:=h
theorem Ag {p:Prop} (h:p:=by kernel_rfl):p:=h
theorem Bf {p:Prop} (h:p:=by simp):p:=h
def Ca:=@List.length_append
def Ec:=@List.getD_eq_getElem?_getD
def Cc:=@Nat.lt_succ_self
def Bg:=@if_neg
def Ef:=@List.length_cons
def Bj:=@if_pos
def E7:=@List.getElem?_eq_getElem
def Co:=@Nat.le_refl
def Hs:=@decide_eq_false_iff_not
def Fa:=@Bool.and_eq_true
def Ik:=@Int.eq_ofNat_of_zero_le
def E6:=@List.length_nil
def E5:=@run_underlying
def G7:=@List.mem_singleton
def Gs:=@Option.some.injEq
def Dk:=@beq_iff_eq
def F8:=@List.mem_append
def G6:=@List.append_assoc
def Gl:=@List.length_map
def K7:=@Option.map_eq_some_iff
def Ij:=@decide_eq_true_eq
def I9:=@Int.toNat_natCast
def F9:=@Bool.not_true
def Lv:=@List.length_singleton
def Lu:=@List.take_append_drop
def Jh:=@Value.slice.injEq
def I8:=@List.length_take
def Fo:=@Int.le_refl
def Gw:=@List.mem_cons
def Rs:=@Array.getElem?_eq_some_iff
def Kc:=@Bool.not_false
def I7:=@List.mem_map
def Q1:=@List.getElem?_eq_none
def Nn:=@List.length_drop
def Ls:=@decide_eq_true
def N2:=@List.append_nil
def P5:=@Classical.not_not
def Rq:=@Int.emod_lt_of_pos
def Rp:=@List.getElem?_take
def Th:=@Bool.or_eq_false_iff
def W9:=@List.take_of_length_le
def Nl:=@Nat.le_trans
def Q0:=@List.map_append
def Pj:=@Addr.mk.injEq
def Ro:=@Int.emod_nonneg
def Aeu:=@Int.mul_le_mul_of_nonneg_right
def Rn:=@Nat.not_lt_zero
def Aet:=@Int.mul_le_mul_of_nonneg_left
def Z5:=@List.length_eq_zero_iff
def Abx:=@List.getElem?_append_left
def Abw:=@List.getElem?_eq_some_iff
def Rm:=@eqGuard_at_int
def Um:=@Result.andThen_ok
def Xs:=@List.mem_of_getElem?
def Z4:=@Bool.and_eq_false_iff
def Xr:=@beq_eq_false_iff_ne
def Rl:=@Bool.true_and
def Abv:=@List.getElem?_replicate
def Agg:=@List.eq_nil_of_length_eq_zero
def Z3:=@List.mem_cons_of_mem
def Z2:=@List.mem_of_mem_take
def Z1:=@Nat.mul_le_mul_right
def Ul:=@List.mem_filter
def Xq:=@List.ext_getElem?
def Agf:=@Int.tdiv_eq_ediv_of_nonneg
def W8:=@Bool.or_eq_true
def Si:=@Bool.or_self
def W7:=@decide_eq_false
def Aes:=@Array.getElem?_eq_none
def Z0:=@List.flatten_cons
def Zz:=@List.getElem?_map
def Tg:=@Addr.add_lit
def Aer:=@Array.getElem?_modify
def Aeq:=@Array.getElem?_toList
def Tf:=@Nat.zero_add
def Abu:=@Nat.lt_of_lt_of_le
def Age:=@List.filter_cons_of_pos
def W6:=@Bool.false_or
def Ajm:=@Int.tmod_eq_emod_of_nonneg
def Uk:=@Sem.run_bind
def Aep:=@Int.toNat_of_nonneg
def Aeo:=@List.flatten_append
def Aen:=@List.length_pos_iff
def Adr:=@Array.getElem?_eq_getElem
def Ua:=@List.nil_append
def Aax:=@Int.emod_add_mul_ediv
def Vz:=@List.cons_append
def Ya:=@List.getElem?_drop
def Vy:=@List.getElem_mem
def Rc:=@Nat.mul_comm
def Adq:=@List.filter_cons_of_neg
def Adp:=@World.block_lt_of_cell?
def Vx:=@List.range_succ
def Aaw:=@Array.length_toList
def Ra:=@Nat.add_mul
def T8:=@Prod.mk.injEq
def X3:=@List.take_length
def Ado:=@List.length_replicate
def Aav:=@List.mem_cons_self
def Vw:=@List.mem_range
def Ahb:=@List.mem_or_eq_of_mem_set
def Aha:=@Option.isSome_iff_exists
def T6:=@Sem.run_pure
def Adn:=@World.cell?_of_block
def Aau:=@List.foldl_append
def Aat:=@List.getElem?_set
def L9:=@wp_mono
def Vv:=@List.map_cons
def Adm:=@List.getElem_of_mem
def Aas:=@Nat.le_of_not_lt
def Nt:=@if_true
def Al7:=@Array.getD_eq_getD_getElem?
def Vu:=@Bool.true_or
def Adl:=@List.mem_replicate
def Vt:=@Nat.lt_or_ge
def Ag9:=@Classical.choose_spec
def Om:=@Iff.rfl
def Al6:=@Array.getElem?_append_left
def Al5:=@Int.sub_mul_emod_self_left
def Ag8:=@List.mem_of_mem_drop
def T5:=@Nat.blt_eq
def T4:=@bne_iff_ne
def X0:=@Int.le_trans
def Xz:=@Int.mul_comm
def Xy:=@Nat.succ_mul
def Ag7:=@List.mem_map_of_mem
def Adk:=@List.foldl_cons
def Ag6:=@decide_eq_true_iff
def T1:=@mem_ready
def Vr:=@ready_mono
def Al4:=@List.getElem?_set_self
def Al3:=@List.length_pos_of_mem
def Aro:=@List.take_append_of_le_length
def Ag5:=@Bool.eq_false_iff
def Ag4:=@List.take_add_one
def Ag3:=@of_decide_eq_true
def Adj:=@Bool.false_and
def Al2:=@Int.le_ediv_of_mul_le
def Al1:=@Int.tmod_add_mul_tdiv
def Adi:=@Lib.lt_of_cell
def Al0:=@Nat.le_of_ble_eq_true
def Adh:=@heap_alloc_new
def Vp:=@and_assoc
def Alz:=@Array.getElem?_range
def Ag1:=@Int.ediv_le_self
def Ag0:=@List.all_eq_true
def Agz:=@List.not_mem_nil
def Aly:=@Nat.div_lt_of_lt_mul
def Adf:=@Bool.and_self
def Arn:=@List.eq_append_cons_of_mem
def Arm:=@List.getElem?_append_right
def Aaq:=@Nat.zero_le
def Ayd:=@Std.Legacy.Range.forIn_eq_forIn_range'
def Agy:=@Int.ediv_nonneg
def Arl:=@List.pairwise_iff_getElem
def Agx:=@Nat.div_add_mod
def Ade:=@Act.put_comm
def Alx:=@Array.ext_getElem?
def Ark:=@Array.setIfInBounds_comm
def Adc:=@Bool.not_not
def Alv:=@List.countP_append
def Arj:=@List.eq_of_mem_replicate
def Alu:=@List.pairwise_cons
def Als:=@Nat.eq_zero_or_pos
def Adb:=@Nat.pow_succ
def Ari:=@UInt8.toNat_ofNat_of_lt'
def Xx:=@wpOp_mono
def Agv:=@Int.mul_nonneg
def Arf:=@List.pairwise_singleton
def Alr:=@Bool.not_eq_true'
def Alq:=@Int.emod_eq_of_lt
def Agu:=@List.map_take
def Alp:=@Nat.mod_eq_of_lt
def Are:=@Lib.run_eql_iface_int
def Ard:=@List.countP_singleton
def Arc:=@List.length_filter_le
def Agt:=@Bool.or_true
def Alo:=@List.nodup_cons
def Aln:=@Option.map_some
def Alm:=@Option.some.inj
def All:=@World.var?_cell
def Arb:=@List.countP_eq_zero
def Ara:=@List.map_congr_left
def Aq9:=@bne_eq_false_iff_eq
def Alk:=@Int.ofNat_tdiv
def Alj:=@List.drop_drop
def Ali:=@List.drop_zero
def Alh:=@List.foldl_nil
def Aao:=@true_and
def Ags:=@Lib.size_eq
def Aq8:=@Bool.not_eq_false'
def Aq7:=@Int.add_emod_right
def Aq6:=@List.filter_append
def Aq5:=@run_sliceAt_string
def Alg:=@List.map_drop
def Aq4:=@List.size_toArray
def Aq3:=@bne_self_eq_false
end Go.Rd
set_option linter.defProp false
open Go renaming World→Ak,Value→Al,Program→Bz,Operand→En
open Decidable renaming decide→Ap
open Bool renaming false→Az
open Go.Value renaming cells→Ea
open Go.Exit renaming inBlock→Hi
open BitVec renaming ofInt→K6
open ByteArray renaming mk→N1
open Go.Oper renaming wp→Ii
open Go.Result renaming andThen→Rk
open Go.Sem renaming run→Jg
open Go.Instr renaming sureAddr→Rb,fill→Aap
open Go.Builtin renaming append_→T9
open UInt8 renaming ofNat→Qd
open Go.Addr renaming add→Ma
open Go.Code renaming block→Qc,loop→Pk,region→Sp
open Go.Op renaming equalIn→T3
open Go.Deferred renaming ofValue→Adg
open Classical renaming propDecidable→Arh
section
namespace Go.Rd
open Go.RowKit
theorem Aed {d t:Nat} (h:¬d=t):Nat.beq d t=Az:=by
 cases a:Nat.beq d t with
 | false=>rfl
 | true=>exact absurd (Nat.eq_of_beq_eq_true a) h
abbrev Env:=List (Nat×(Bool×Al))
def Env.look:Env→Nat→Option (Bool×Al)
 | [],_=>none
 | (d,gv)::σ,t=>bif Nat.beq d t then some gv else Env.look σ t
def Env.ev (σ:Env):En→Option (Bool×Al)
 | .tmp t=>σ.look t
 | .const v=>some (true,v)
 | .global g=>some (true,.pointer (some ⟨g,0,none⟩))
 | .func f=>some (true,.func (.func f) #[] #[])
structure Has (n:Nat) (a:Act) (σ:Env):Prop where
 size:a.tmps.size=n
 defers:a.defers=[]
 look:∀ t g v,σ.look t=some (g,v)→a.tmps.getD t undef=bif g then v else undef
theorem Has.ev {n:Nat}{a:Act}{σ:Env} (h:Has n a σ) {x:En}{g:Bool}{v:Al} (b:σ.ev x=some (g,v)) (c:g=true):a.eval x=v:=by
 subst c
 cases x with
 | tmp t=>exact h.look t true v b
 | const u=>simp only[Env.ev,Gs,T8,Aao] at b;exact b
 | global k=>simp only[Env.ev,Gs,T8,Aao] at b;exact b
 | func f=>simp only[Env.ev,Gs,T8,Aao] at b;exact b
theorem Has.put {n:Nat}{a:Act}{σ:Env} (h:Has n a σ) {d:Nat} (c:d<n) (G:Bool) (v:Al):Has n (a.put (some d) (bif G then v else undef)) ((d,(G,v))::σ):=by
 refine⟨by simpa[Act.put] using h.size,h.defers,fun t g u b=>?_⟩;unfold Env.look at b;by_cases e:d=t
 ·subst e
  simp only[Nat.beq_refl,cond_true,Gs,T8] at b;obtain⟨rfl,rfl⟩:=b;simp[Act.put,h.size,c]
 ·have:Nat.beq d t=Az:=Aed e
  rw[this,cond_false] at b;rw[←h.look t g u b];simp[Act.put,Array.getElem?_setIfInBounds_ne e]
theorem Has.keep {n:Nat}{a:Act}{σ:Env} (h:Has n a σ):Has n (a.put none undef) σ:=h
def Sub (σ:Env):Env→Prop
 | []=>True
 | (t,gv)::r=>σ.look t=some gv∧Sub σ r
theorem Sub.look {σ:Env}:∀ {τ:Env},Sub σ τ→∀ t a,τ.look t=some a→σ.look t=some a
 | [],_,_,_,h=>by simp[Env.look] at h
 | (d,x)::r,⟨h1,h2⟩,t,a,h=>by
  unfold Env.look at h;by_cases e:d=t
  ·subst e;simp only[Nat.beq_refl,cond_true,Gs] at h;rw[h1,h]
  ·have:Nat.beq d t=Az:=Aed e
   rw[this,cond_false] at h;exact Sub.look h2 t a h
theorem Has.sub {n:Nat}{a:Act}{σ τ:Env} (h:Has n a σ) (hs:Sub σ τ):Has n a τ :=
 ⟨h.size,h.defers,fun t g v b=>h.look t g v (hs.look t (g,v) b)⟩
def An8:Option (Nat×Bool)→(Nat→Option Bool)→Bool
 | none,_=>true
 | some (j,a),y=>y j==some a
theorem U7 (o:Oper) (y:Nat→Option Bool):Region.wanted o y=An8 o.guard y:=by
 unfold Region.wanted An8
 cases o.guard with
 | none=>rfl
 | some x=>rfl
def GuardIs (ops:Array Oper) (σ:Env) (gd:Option (Nat×Bool)) (G:Bool):Prop:=∀ n a,Has n a σ→An8 gd (yielded ops a.tmps)=G
theorem GuardIs.none {ops:Array Oper}{σ:Env}:GuardIs ops σ none true:=fun _ _ _=>rfl
def Axk:=@GuardIs.none
theorem Abb {ops:Array Oper}{σ:Env}{j d:Nat}{g b:Bool} (i:(ops[j]?).bind (·.dst)=some d) (f:σ.look d=some (g,.bool b)) {n:Nat}{a:Act} (h:Has n a σ) :
  yielded ops a.tmps j=bif g then some b else none:=by
 have c:=h.look d g _ f;unfold yielded;rw[i,Option.bind_some]
 cases g with
 | true =>
  simp only[cond_true] at c ⊢
  have:a.tmps[d]?=some (.bool b):=by
   cases e:a.tmps[d]? with
   | none=>simp[Al7,e,undef] at c
   | some v=>simp[Al7,e] at c;rw[c]
  rw[this]
 | false =>
  simp only[cond_false] at c ⊢
  cases e:a.tmps[d]? with
  | none=>rfl
  | some v =>
   simp[Al7,e,undef] at c;subst c;rfl
theorem GuardIs.pos {ops:Array Oper}{σ:Env}{j d:Nat}{b:Bool} (e:(ops[j]?).bind (·.dst)=some d) (c:σ.look d=some (true,.bool b)):GuardIs ops σ (some (j,true)) b:=fun n a h=>by
 show (yielded ops a.tmps j==some _)=_;rw[Abb e c h];cases b <;> rfl
theorem GuardIs.neg {ops:Array Oper}{σ:Env}{j d:Nat}{b:Bool} (e:(ops[j]?).bind (·.dst)=some d) (c:σ.look d=some (true,.bool b)):GuardIs ops σ (some (j,Az)) (!b):=fun n a h=>by
 show (yielded ops a.tmps j==some _)=_;rw[Abb e c h];cases b <;> rfl
theorem Anx {ops:Array Oper}{σ:Env}{j d:Nat}{g b:Bool} (e:(ops[j]?).bind (·.dst)=some d) (c:σ.look d=some (g,.bool b)):GuardIs ops σ (some (j,true)) (g&&b):=fun n a h=>by
 show (yielded ops a.tmps j==some _)=_;rw[Abb e c h];cases g <;> cases b <;> rfl
theorem Awz {α:Type} (s:Ask α):∀ w:Ak,w.drawn≤(w.ask s).2.drawn:=by
 induction s with
 | done a=>intro w;exact Co _
 | ask q r k b =>
  intro w;unfold World.ask;dsimp only;split
  ·exact b _ _
  ·refine Nl ?_ (b _ _)
   show w.drawn≤w.drawn+1;omega
theorem Avs (w:Ak) (c:Sys):w.drawn≤(w.sys c).2.drawn:=by
 have h:=Awz (Kernel.perform c w.os) w;unfold World.sys;split
 ·exact Co _
 ·rename_i r os w' a
  rw[a] at h;exact h
theorem Afk {p:Bz}{w w':Ak}{a:Addr}{u:TypeId}{k:Addr}{v:Al}{b:Bool}{l:List Addr} (h:w.viewStore p a u k v b=.ok (w',l)):w'.drawn=w.drawn:=by
 unfold World.viewStore at h;simp only[bind,Except.bind,pure,Except.pure] at h
 repeat' split at h
 all_goals (try cases h)
 all_goals rfl
theorem Aix {p:Bz}{w w':Ak}{a:Addr}{v:Al}{b:Bool}{l:List Addr} (h:w.farStore p a v b=.ok (w',l)):w'.drawn=w.drawn:=by
 unfold World.farStore at h;split at h
 ·split at h
  ·rename_i r c
   cases h
   exact Afk c
  ·cases h
 ·cases h
theorem Wy (w:Ak) (a:Addr) (n:Nat):(w.freeze a n).drawn=w.drawn:=by
 unfold World.freeze;(repeat' split) <;> rfl
theorem Va {P:Bz}{α:Type} (s:Sem α):∀ (w:Ak) {a:α}{w':Ak},s.run P w=.ok a w'→w.drawn≤w'.drawn:=by
 induction s with
 | pure a=>intro w a w' h;simp[Jg] at h;rw[h.2];exact Co _
 | load m a k b =>
  intro w d w' h;unfold Jg at h;split at h
  ·exact b _ _ h
  ·split at h
   ·exact b _ _ h
   ·cases h
 | store m a v k b =>
  intro w d w' h;unfold Jg at h;split at h
  ·rename_i e;cases e
  ·rename_i e;cases e
  ·rename_i e;cases e;cases h
  ·rename_i e;cases e;cases h
  ·rename_i e
   cases e
   split at h
   ·split at h
    ·cases h
    ·exact b (World.setCell _ a v) h
   ·split at h
    ·rename_i w1 l f
     have:=b w1 h;rw[Aix f] at this;exact this
    ·cases h
  all_goals (rename_i e;cases e)
 | new o k b=>intro w a w' h;unfold Jg at h;exact b _ { w with heap:=w.heap.push o } h
 | shape r k b=>intro w a w' h;unfold Jg at h;exact b _ _ h
 | freeze a n k b =>
  intro w d w' h;unfold Jg at h;have:=b _ h;rw[Wy] at this;exact this
 | frozen a k b=>intro w a w' h;unfold Jg at h;exact b _ _ h
 | getObj r k b =>
  intro w a w' h;unfold Jg at h;split at h
  ·cases h
  ·exact b _ _ h
  ·cases h
 | setObj r o k b =>
  intro w a w' h;unfold Jg at h;split at h
  ·cases h
  ·exact b { w with heap:=w.heap.setIfInBounds r o } h
  ·cases h
 | choose q k b =>
  intro w a w' h;unfold Jg at h;split at h
  ·exact b _ _ h
  ·have:=b _ { w with drawn:=w.drawn+1 } h
   simp at this;omega
 | sys c k b=>intro w a w' h;unfold Jg at h;exact Nl (Avs w c) (b _ _ h)
 | program k b=>intro w a w' h;unfold Jg at h;exact b _ _ h
 | mark m k b=>intro w a w' h;unfold Jg at h;exact b _ h
 | halt g=>intro w a w' h;unfold Jg at h;cases h
structure Grow (w w':Ak):Prop where
 os:w'.os=w.os
 tape:w'.tape=w.tape
 output:w'.output=w.output∧w.drawn≤w'.drawn
 size:w.heap.size≤w'.heap.size
 block:∀ k,k<w.heap.size→w'.heap[k]?=w.heap[k]?
theorem Grow.below {w w':Ak} (h:Grow w w'):Below w.heap.size w w':=⟨h.os,h.tape,h.output.1,h.size,h.block⟩
theorem Grow.of {w w':Ak} (h:Below w.heap.size w w') (a:w.drawn≤w'.drawn):Grow w w':=⟨h.os,h.tape,⟨h.output,a⟩,h.size,h.block⟩
theorem Grow.cell {w w':Ak} (h:Grow w w') {a:Addr} (b:a.block<w.heap.size):w'.cell? a=w.cell? a:=h.below.cell b
theorem Grow.refl (w:Ak):Grow w w:=.of (Below.refl _ _) (Co _)
def Anz:=@Grow.refl
theorem Grow.trans {a b c:Ak} (h:Grow a b) (k:Grow b c):Grow a c:=.of (Below.trans h.below (Below.mono k.below h.size)) (Nl h.output.2 k.output.2)
theorem Grow.alloc {w:Ak} (o:Obj):Grow w (w.alloc o):=.of ((Below.refl _ _).alloc (Co _) _) (Co _)
def Aqq:=@Grow.alloc
def Im (C:Ak→Prop):Prop:=∀ w w',C w→Grow w w'→C w'
section
variable {P : Bz}
def QV (P:Bz) (o:Oper) (σ:Env) (C:Ak→Prop) (v:Al):Prop:=∀ n a,Has n a σ→∀ w,C w →
 ((execOp a.eval o).run P w=.ok (.value v) w)∨(∃ f args,(execOp a.eval o).run P w=.ok (.enter f args) w∧Calls P f args w (fun e b=>e=.returned v∧Grow w b))
def WK (n:Nat) (K:Act→Ak→Prop) (σ:Env) (C:Ak→Prop):Prop:=∀ a w,Has n a σ→C w→K a w
variable {n : Nat} {ops : Array Oper} {Q : Exit → Act → Ak → Prop} {rest : List Oper} {o : Oper} {σ : Env} {C S : Ak → Prop}
theorem Ajk {a:Act}{v:Al} (m:QV P o σ C v) (g:Has n a σ) {w:Ak} (b:C w) (i:Im C) {K:Act→Ak→Prop} (c:∀ w',C w'→K (a.put o.dst v) w'):o.wp P a w K Q:=by
 unfold Ii;rcases m n a g w b with h | ⟨f,args,h,j⟩
 ·rw[h];exact c w b
 ·rw[h]
  exact j.mono fun e d ⟨k,l⟩=>by subst k;exact c d (i w d b l)
theorem Ap2 {G:Bool}{v:Al}{d:Nat} (h:Im C) (c:o.dst=some d) (e:d<n) (g:GuardIs ops σ o.guard G) (i:G=true→QV P o σ C v)
  (k:WK n (wpList P ops Q rest) ((d,(G,v))::σ) C):WK n (wpList P ops Q (o::rest)) σ C:=fun a w b f=>by
 unfold wpList;rw[U7,g n a b]
 cases G with
 | true =>
  rw[Bj rfl];refine .inl (Ajk (i rfl) b f h fun w' j=>?_);rw[c];exact k _ w' (b.put e true v) j
 | false =>
  rw[Bg Bf,c];exact k _ w (b.put e Az v) f
theorem WL.nil (k:WK n (Q .normal) σ C):WK n (wpList P ops Q []) σ C:=k
def Bk:=@WL.nil
def EV (P:Bz) (n:Nat) (o:Oper) (σ:Env) (C:Ak→Prop) (K:Act→Ak→Prop) (Q:Exit→Act→Ak→Prop):Prop :=
 ∀ a w,Has n a σ→C w→o.wp P a w K Q∨(o.asks P a w∧LetsOut Q)
theorem Ab (c:o.guard=none) (h:EV P n o σ C (wpList P ops Q rest) Q):WK n (wpList P ops Q (o::rest)) σ C:=fun a w b d=>by
 unfold wpList;rw[Bj (by simp[Region.wanted,c])];exact h a w b d
def Aez (a:Region.Mode) (ops:Array Oper):Nat→Oper→Nat→Prop
 | 0,_,_=>False
 | n+1,o,k=>∃ e∈o.after,Region.binds a e=true∧(e.on=k∨∃ b,ops[e.on]?=some b∧Aez a ops n b k)
def Tail (b:Region.Mode) (ops:Array Oper) (a:Array Bool):Prop:=∃ (j:Nat) (c:Oper),ops[j]?=some c∧Region.ready b ops a=[j]∧∀ k,a.getD k Az=true→Aez b ops 4 c k
def DC (b:Region.Mode) (ops:Array Oper) (a:Array Bool):Prop:=∀ (k:Nat) (o:Oper),ops[k]?=some o→a.getD k Az=true→∀ e∈o.after,Region.binds b e=true→a.getD e.on Az=true
theorem Wz {b:Region.Mode}{a:Array Bool} (d:DC b ops a):∀ {m:Nat}{o:Oper}{k:Nat},(∀ e∈o.after,Region.binds b e=true→a.getD e.on Az=true)→Aez b ops m o k→a.getD k Az=true
 | 0,_,_,_,h=>h.elim
 | m+1,o,k,hall,⟨e,he,hb,h⟩=>by
  have c:=hall e he hb;rcases h with rfl | ⟨j,i,h⟩
  ·exact c
  ·exact Wz d (fun e' g f=>d e.on j i c e' g f) h
theorem DC.set {b:Region.Mode}{i:Nat}{a:Array Bool} (h:DC b ops a) (hi:i∈Region.ready b ops a):DC b ops (a.setIfInBounds i true):=fun k o j g e f d=>by
 obtain⟨_,oi,l,m⟩:=T1.1 hi;by_cases c:i=k
 ·subst c
  rw[j] at l
  cases l
  exact getD_set_true (m e f d)
 ·rw[getD_set_ne Az c] at g
  exact getD_set_true (h k o j g e f d)
theorem DC.start {b:Region.Mode}{m:Nat}:DC b ops (Array.replicate m Az):=fun k o _ a=>by
 by_cases c:k<m
 ·simp[c] at a
 ·simp[c] at a
def Nu (P:Bz) (b:Region.Mode) (ops:Array Oper) (Q:Exit→Act→Ak→Prop):(Ak→Prop)→Nat→Array Bool→(Ak→Prop)→Act→Prop
 | S,0,listed,C,a=>Region.ready b ops listed=[]∧∀ w,C w→Q .normal a w
 | S,fuel+1,listed,C,a=>DC b ops listed →
  ((Region.ready b ops listed=[]→∀ w,C w→Q .normal a w) ∧
  ∀ i∈Region.ready b ops listed,∀ w,C w→wpOp P ops Q i (fun c w'=>∃ C' S':Ak→Prop,Im C'∧(∀ x,C' x→S' x)∧(∀ x,S' x→S x)∧C' w'∧Nu P b ops Q S' fuel (listed.setIfInBounds i true) C' c) a w) ∨
  (Tail b ops listed∧∀ w,C w→wpAny P b ops Q (fuel+1) listed a w)
theorem Aib {d:Region.Mode}:∀ (S:Ak→Prop) (b:Nat) (c:Array Bool) (C:Ak→Prop) (a:Act) (w:Ak),DC d ops c→C w→Nu P d ops Q S b c C a→wpAny P d ops Q b c a w
 | _,0,_,_,_,w,_,hw,h=>⟨h.1,h.2 w hw⟩
 | _,b+1,_,_,_,w,hd,hw,h=>by
  rcases h hd with h | h
  ·exact⟨fun f=>h.1 f w hw,fun i hi=>Xx (fun e w' ⟨C',S',_,_,_,g,j⟩=>Aib S' b _ C' e w' (hd.set hi) g j) (h.2 i hi w hw)⟩
  ·exact h.2 w hw
def YG (P:Bz) (ops:Array Oper) (C:Ak→Prop) (o:Oper) (v:Al) (a:Act):Prop :=
 (An8 o.guard (yielded ops a.tmps)=true∧∀ w,C w →
  ((execOp a.eval o).run P w=.ok (.value v) w)∨(∃ f args,(execOp a.eval o).run P w=.ok (.enter f args) w∧Calls P f args w (fun e b=>e=.returned v∧Grow w b))) ∨
 (An8 o.guard (yielded ops a.tmps)=Az∧v=undef)
theorem YG.of_same {v:Al}{a b:Act} (e:YG P ops C o v a) (d:execOp b.eval o=execOp a.eval o)
  (c:Region.wanted o (yielded ops b.tmps)=Region.wanted o (yielded ops a.tmps)):YG P ops C o v b:=by
 unfold YG at *;rw[U7,U7] at c;rw[d,c];exact e
theorem YG.mono {v:Al}{a:Act}{S':Ak→Prop} (h:∀ x,S' x→S x):YG P ops S o v a→YG P ops S' o v a
 | .inl ⟨c,b⟩=>.inl ⟨c,fun w d=>b w (h w d)⟩
 | .inr b=>.inr b
theorem YG.toOp {i:Nat}{oi:Oper}{v:Al}{a:Act} (hi:ops[i]?=some oi) (r:YG P ops S oi v a) {K:Act→Ak→Prop}{w:Ak} (b:C w) (j:∀ x,C x→S x) (k:Im C)
  (c:∀ w',C w'→K (a.put oi.dst v) w'):wpOp P ops Q i K a w:=by
 unfold Go.wpOp;simp only[hi];rw[U7];rcases r with ⟨d,q⟩ | ⟨d,rfl⟩
 ·rw[Bj d]
  refine .inl ?_;unfold Ii;rcases q w (j w b) with h | ⟨f,args,h,l⟩
  ·rw[h];exact c w b
  ·rw[h]
   exact l.mono fun e g ⟨m,p⟩=>by subst m;exact c g (k w g b p)
 ·rw[Bg (by simp[d])]
  exact c w b
theorem Ad1 {j:Nat}{oi g:Oper}{v:Al} (B:ops[j]?=some g) (A:oi.apart ops g=true)
  (F:∀ cs b,oi.op≠.select cs b) (z:∀ cs b,g.op≠.select cs b)
  (t:∀ c a w,Q (.panic c) (a.put oi.dst v) w→Q (.panic c) a w) {K:Act→Ak→Prop}{a:Act}{w:Ak}
  (i:YG P ops S oi v a) (h:wpOp P ops Q j K (a.put oi.dst v) w) :
  wpOp P ops Q j (fun q w'=>YG P ops S oi v q∧K (q.put oi.dst v) w') a w:=by
 obtain⟨m,k,s⟩:=Oper.apart_spec A
 have keep:∀ (a:Act),YG P ops S oi v a→∀ u,YG P ops S oi v (a.put g.dst u):=fun a i u =>
  i.of_same (execOp_put oi F a g.dst u s) (wanted_put oi a g.dst u s)
 have G:∀ d,YG P ops S oi v { a with defers:=d::a.defers }:=fun d=>i.of_same rfl rfl;unfold wpOp at *;simp only[B] at *;rw[wanted_put g a oi.dst v m] at h;split
 ·rename_i p
  simp only[p,Nt] at h;rcases h with h | ⟨y,E⟩
  case inr=>exact .inr ⟨by unfold Oper.asks at *;rw[execOp_put g z a oi.dst v m] at y;exact y,E⟩
  refine .inl ?_;unfold Ii at *;rw[execOp_put g z a oi.dst v m] at h;generalize (execOp a.eval g).run P w=r at *
  cases r with
  | ok n w' =>
   cases n <;> simp only[Oper.upon] at h ⊢
   case value u=>exact⟨keep a i u,by rw[←Ade a v u k];exact h⟩
   case skip=>exact⟨keep a i _,by rw[←Ade a v undef k];exact h⟩
   case defer d =>
    refine⟨keep _ (G d) _,?_⟩;rw[←Ade _ v undef k,←Act.put_defers];exact h
   case enter f args =>
    refine Calls.mono h fun e H l=>?_
    cases e with
    | returned u=>exact⟨keep a i u,by rw[←Ade a v u k];exact l⟩
    | panicked c=>exact t _ _ _ l
    | outgrown=>exact l
   case row row args=>exact Rows.mono h fun u H l=>⟨keep a i u,by rw[←Ade a v u k];exact l⟩
  | halt x w' =>
   cases x <;> simp only[Oper.upon] at h ⊢
   case panic u=>exact t _ _ _ h
 ·rename_i p
  simp only[p] at h;exact⟨keep a i _,by rw[←Ade a v undef k];exact h⟩
theorem Anm {s:Region.Mode}{i:Nat}{oi:Oper}{v:Al} (hi:ops[i]?=some oi) (T:∀ (j:Nat) (o:Oper) cs b,ops[j]?=some o→o.op≠.select cs b)
  (a0:∀ c a w,Q (.panic c) (a.put oi.dst v) w→Q (.panic c) a w) :
  ∀ (t:Nat) (S:Ak→Prop) (f:Array Bool) (C:Ak→Prop) (a:Act),Im C→(∀ x,C x→S x) →
   (∀ j l,ops[j]?=some l→j≠i→f.getD j true=Az→(∀ e∈l.after,Region.binds s e=true→e.on≠i)→oi.apart ops l=true) →
   i∈Region.ready s ops f→YG P ops S oi v a →
   Nu P s ops Q S t (f.setIfInBounds i true) C (a.put oi.dst v)→Nu P s ops Q S (t+1) f C a:=by
 intro t
 induction t with
 | zero =>
  intro S f C a z y _ d E H;intro G;refine .inl ⟨fun h=>(by rw[h] at d;cases d),fun j q w B=>?_⟩;by_cases g:j=i
  ·subst g;exact E.toOp hi B y z fun w' A=>⟨C,S,z,y,fun _ h=>h,A,H⟩
  ·have:=Vr q g
   rw[H.1] at this
   cases this
 | succ t b4 =>
  intro S f C a z y M d E H;intro G;have W:=H;replace H:=H (G.set d);refine .inl ⟨fun h=>(by rw[h] at d;cases d),fun j q w B=>?_⟩;by_cases g:j=i
  ·subst g;exact E.toOp hi B y z fun w' A=>⟨C,S,z,y,fun _ h=>h,A,W⟩
  ·have J:i<f.size:=by
    rcases Vt i f.size with F | F
    ·exact F
    ·have m:=(T1.1 d).1
     simp[Aes F] at m
   rcases H with H | ⟨⟨b5,b6,b0,b1,a1⟩,_⟩
   case inr =>
    have N:=Vr q g;rw[b1,G7] at N;subst N;obtain⟨_,l,r,I⟩:=T1.1 q;rw[b0] at r
    cases r
    have u:=Wz G I (a1 i (by simp[J]));have m:=(T1.1 d).1;simp[J] at m u;rw[m] at u;cases u
   have p:=H.2 j (Vr q g) w B;obtain⟨R,l,r,I⟩:=T1.1 q
   have a9:∀ e∈l.after,Region.binds s e=true→e.on≠i:=fun e a3 a2 a4=>by
    have p:=I e a3 a2;have m:=(T1.1 d).1;rw[a4] at p;simp[J] at m p;rw[m] at p;cases p
   have u:=Ad1 r (M j l r g R a9) (fun cs b=>T i oi cs b hi) (fun cs b=>T j l cs b r) a0 E p
   have a5:∀ k ok,ops[k]?=some ok→k≠i→(f.setIfInBounds j true).getD k true=Az →
     (∀ e∈ok.after,Region.binds s e=true→e.on≠i)→oi.apart ops ok=true:=fun k ok a6 a7 V a8=>by
    refine M k ok a6 a7 ?_ a8;by_cases O:j=k
    ·subst O;exact R
    ·rw[getD_set_ne true O] at V;exact V
   refine Xx (fun X w' Y=>?_) u;obtain⟨b3,C',S',L,U,K,A,b2⟩:=Y;refine⟨C',S',L,U,K,A,b4 S' (f.setIfInBounds j true) C' X L U a5 (Vr d (Ne.symm g)) (b3.mono K) ?_⟩;rw[Ark _ _ g];exact b2
def PanicOk (Q:Exit→Act→Ak→Prop):Prop:=∀ c a d v w,Q (.panic c) (a.put d v) w→Q (.panic c) a w
def WD (P:Bz) (n:Nat) (ops:Array Oper) (Q:Exit→Act→Ak→Prop) (S:Ak→Prop) (b:Nat) (c:Array Bool) (σ:Env) (C:Ak→Prop):Prop :=
 (∀ x,C x→S x)→∀ a,Has n a σ→Nu P .any ops Q S b c C a
theorem WD.take (i:Nat) {oi:Oper}{e:Nat}{b l:Array Bool}{G:Bool}{v:Al}{d:Nat} (hi:ops[i]?=some oi)
  (hs:Region.noSelect ops=true) (s:Region.free .any ops b i=true) (y:(Region.ready .any ops b).contains i=true) (t:b.setIfInBounds i true=l)
  (p:PanicOk Q)
  (q:Im C) (r:oi.dst=some d) (u:d<n) (m:GuardIs ops σ oi.guard G) (x:G=true→QV P oi σ S v)
  (k:WD P n ops Q S e l ((d,(G,v))::σ) C):WD P n ops Q S (e+1) b σ C:=fun g a f=>by
 subst t;have j:=k g _ (f.put u G v);rw[←r] at j;refine Anm hi (Region.noSelect_spec hs) (fun c a w=>p c a _ _ w) e S b C a q g (Region.free_spec hi s) (by simpa using y) ?_ j;have h:=m n a f
 cases G with
 | true=>exact .inl ⟨h,fun w z=>x rfl n a f w z⟩
 | false=>exact .inr ⟨h,rfl⟩
theorem Aw1 {b:Nat}{c:Array Bool}{τ:Env}{C' S':Ak→Prop} (f:Im C') (hs:∀ x,C' x→S' x) (g:∀ x,S' x→S x) (h:WD P n ops Q S' b c τ C') :
  WK n (fun d w'=>∃ C' S':Ak→Prop,Im C'∧(∀ x,C' x→S' x)∧(∀ x,S' x→S x)∧C' w'∧Nu P .any ops Q S' b c C' d) τ C':=fun a w e i=>⟨C',S',f,hs,g,i,h hs a e⟩
theorem WD.only (i:Nat) {oi:Oper}{c:Nat}{b g:Array Bool} (hi:ops[i]?=some oi) (f:Region.ready .any ops b=[i]) (p:b.setIfInBounds i true=g)
  (m:oi.guard=none) (h:EV P n oi σ C (fun k w'=>∃ C' S':Ak→Prop,Im C'∧(∀ x,C' x→S' x)∧(∀ x,S' x→S x)∧C' w'∧Nu P .any ops Q S' c g C' k) Q):WD P n ops Q S (c+1) b σ C:=fun r a l=>by
 subst p;intro _;refine .inl ⟨fun d=>(by rw[f] at d;cases d),fun j e w q=>?_⟩;rw[f,G7] at e;subst e;unfold Go.wpOp;simp only[hi];rw[Bj (by simp[Region.wanted,m])];exact h a w l q
def Aml (ops:Array Oper):Nat→Oper→Nat→Bool
 | 0,_,_=>Az
 | n+1,o,k=>o.after.any fun e=>Region.binds .any e&&(e.on==k || match ops[e.on]? with | some a=>Aml ops n a k | none=>Az)
theorem Y0 {k:Nat}:∀ {m:Nat}{o:Oper},Aml ops m o k=true→Aez .any ops m o k
 | 0,_,h=>by cases h
 | m+1,o,h=>by
  obtain⟨e,d,b⟩:=Array.any_eq_true'.1 h;simp only[Fa,W8,Dk] at b;refine⟨e,d,b.1,?_⟩;rcases b.2 with a | a
  ·exact .inl a
  ·cases c:ops[e.on]? with
   | none=>rw[c] at a;cases a
   | some f=>rw[c] at a;exact .inr ⟨f,rfl,Y0 a⟩
def Aoa (ops:Array Oper) (b:Oper) (a:Array Bool):Bool:=(List.range a.size).all fun k=>!a.getD k Az || Aml ops 4 b k
theorem Aif {d:Oper}{a:Array Bool} (h:Aoa ops d a=true):∀ k,a.getD k Az=true→Aez .any ops 4 d k:=fun k c=>by
 have e:k<a.size:=by
  rcases Vt k a.size with b | b
  ·exact b
  ·simp[Aes b] at c
 have:=Ag0.1 h k (Vw.2 e);rw[c,F9,W6] at this;exact Y0 this
theorem WD.last (i:Nat) {oi:Oper}{d:Nat}{b:Array Bool} (hi:ops[i]?=some oi) (c:Region.ready .any ops b=[i]) (q:Aoa ops oi b=true) (k:Region.ready .any ops (b.setIfInBounds i true)=[])
  (p:oi.guard=none) (h:EV P n oi σ C (Q .normal) Q):WD P n ops Q S (d+1) b σ C:=fun t a m=>by
 intro _;refine .inr ⟨⟨i,oi,hi,c,Aif q⟩,fun w r=>⟨fun e=>(by rw[c] at e;cases e),fun j g=>?_⟩⟩;rw[c,G7] at g;subst g;refine Xx (K:=Q .normal) (fun s w' l=>?_) ?_
 ·cases d with
  | zero=>exact⟨k,l⟩
  | succ f=>exact⟨fun _=>l,by rw[k];simp⟩
 ·unfold Go.wpOp
  simp only[hi];rw[Bj (by simp[Region.wanted,p])];exact h a w m r
theorem WD.done {c:Nat}{g:Array Bool} (e:Region.ready .any ops g=[]) (k:WK n (Q .normal) σ C):WD P n ops Q S c g σ C:=fun h a d=>by
 cases c with
 | zero=>exact⟨e,fun w b=>k a w d b⟩
 | succ f=>exact fun _=>.inl ⟨fun _ w b=>k a w d b,by rw[e];simp⟩
theorem WC.region {id:Nat}{l:List Oper} (h:WK n (wpList P l.toArray Q l) σ C):WK n ((Sp id l.toArray Az).wp P Q) σ C:=fun a w b c=>wp_region_lit (h a w b c)
def Bn:=@WC.region
theorem WC.drawn {id:Nat} (e:P.follows .mixedOrders=true) (d:Im C) (b:∀ x,C x→S x) (h:WD P n ops Q S ops.size (Array.replicate ops.size Az) σ C):WK n ((Sp id ops true).wp P Q) σ C:=fun a w c f =>
 wp_region_any e (Aib S _ _ C a _ DC.start (d w _ f ⟨rfl,rfl,⟨rfl,Nat.le_succ _⟩,Co _,fun _ _=>rfl⟩) (h b a c))
theorem WC.seq {x y:Code} (h:WK n (x.wp P (Exit.then (y.wp P Q) Q)) σ C):WK n ((x.seq y).wp P Q) σ C:=fun a w b c=>wp_seq (h a w b c)
def Au:=@WC.seq
theorem WC.skip (k:WK n (Q .normal) σ C):WK n (Code.skip.wp P Q) σ C:=fun a w b c=>wp_skip (k a w b c)
theorem WC.exit {id:Nat} (k:WK n (Q (.exit id)) σ C):WK n ((Code.exit id).wp P Q) σ C:=fun a w b c=>wp_exit (k a w b c)
def Cw:=@WC.exit
theorem WC.ret (k:WK n (Q .ret) σ C):WK n (Code.ret.wp P Q) σ C:=fun a w b c=>wp_ret (k a w b c)
def A9:=@WC.ret
theorem WC.block {id:Nat}{c:Code} (h:WK n (c.wp P (Hi id Q)) σ C):WK n ((Qc id c).wp P Q) σ C:=fun a w b d=>wp_block (h a w b d)
def Cq:=@WC.block
theorem WC.cond {c:En}{x y:Code}{b:Bool} (f:σ.ev c=some (true,.bool b)) (i:b=true→WK n (x.wp P Q) σ C) (g:b=Az→WK n (y.wp P Q) σ C):WK n ((Code.cond c x y).wp P Q) σ C:=fun a w d e =>
 wp_cond_split (d.ev f rfl) (fun h=>i h a w d e) (fun h=>g h a w d e)
def Abm:=@WC.cond
theorem WC.cut {c:Code} (τ:Env) (D:Ak→Prop) (hs:Sub σ τ) (d:∀ w,C w→D w) (h:WK n (c.wp P Q) τ D):WK n (c.wp P Q) σ C:=fun a w b e=>h a w (b.sub hs) (d w e)
theorem WQ.then {y:Code} (h:WK n (y.wp P Q) σ C):WK n (Exit.then (y.wp P Q) Q .normal) σ C:=h
def Aj:=@WQ.then
theorem WQ.block {id:Nat} (h:WK n (Q .normal) σ C):WK n (Hi id Q .normal) σ C:=h
def Ba:=@WQ.block
theorem Am {id:Nat} (h:WK n (Q .normal) σ C):WK n (Hi id Q (.exit id)) σ C:=fun a w b c=>by
 simp only[Hi,Nt];exact h a w b c
theorem Ai0 {id j:Nat} (c:j≠id) (h:WK n (Q (.exit j)) σ C):WK n (Hi id Q (.exit j)) σ C:=fun a w b d=>by
 simp only[Hi,Bg c];exact h a w b d
theorem WC.loop {Γ:Type} (S:Γ→Env) (D:Γ→Ak→Prop) (I:Γ→Prop) (f:Γ→Nat) (d:Γ) {c:Code} (v:I d) (hs:Sub σ (S d)) (s:∀ w,C w→D d w)
  (x:∀ g,I g→WK n (c.wp P (Exit.then (fun b w'=>∃ g',I g'∧f g'<f g∧Has n b (S g')∧D g' w') Q)) (S g) (D g)):WK n ((Pk c).wp P Q) σ C:=fun a w r u=>by
 refine wp_loop_ghost (fun k b w'=>∃ g,I g∧f g=k∧Has n b (S g)∧D g w') (f d) ⟨d,v,rfl,r.sub hs,s w u⟩ ?_;rintro k b w' ⟨g,q,rfl,t,p⟩;refine L9 (x g q b w' t p) ?_;intro e y z h
 cases e <;> first | exact h | (obtain⟨g',i,j,l,m⟩:=h;exact⟨f g',j,g',i,rfl,l,m⟩)
theorem Aw {fn:Func}{R:Ending→Ak→Prop}{t:Nat}{v:Al} (c:fn.results=#[.tmp t]) (d:σ.look t=some (true,v)) (h:∀ w,C w→R (.returned v) w) :
  WK n (bodyPost P fn R .ret) σ C:=fun a w b e=>by
 refine⟨b.defers,v,?_,h w e⟩;rw[results_tmp c];have:=b.look t true v d;rw[this];rfl
theorem Eg {fn:Func}{R:Ending→Ak→Prop}{t u:Nat}{v x:Al} (c:fn.results=#[.tmp t,.tmp u]) (d:σ.look t=some (true,v)) (f:σ.look u=some (true,x)) (h:∀ w,C w→R (.returned (.tuple #[v,x])) w) :
  WK n (bodyPost P fn R .ret) σ C:=fun a w b e=>by
 refine⟨b.defers,_,?_,h w e⟩;rw[results_tmp2 c,b.look t true v d,b.look u true x f];rfl
theorem Aut {fn:Func}{R:Ending→Ak→Prop} (c:fn.results=#[]) (h:∀ w,C w→R (.returned (.tuple #[])) w) :
  WK n (bodyPost P fn R .ret) σ C:=fun a w b d=>⟨b.defers,_,results_none c _ _ _,h w d⟩
theorem Jk {fn:Func}{R:Ending→Ak→Prop} (c:fn.results=#[]) (h:∀ w,C w→R (.returned (.tuple #[])) w) :
  WK n (bodyPost P fn R .normal) σ C:=fun a w b d=>⟨b.defers,_,results_none c _ _ _,h w d⟩
def Zj:List Al→Nat→Env
 | [],_=>[]
 | v::r,k=>(k,(true,v))::Zj r (k+1)
theorem Ac3:∀ (l:List Al) (k t:Nat) (g:Bool) (v:Al),(Zj l k).look t=some (g,v)→g=true∧∃ j,t=k+j∧l[j]?=some v
 | [],_,_,_,_,h=>by simp[Zj,Env.look] at h
 | x::r,k,t,g,v,h=>by
  unfold Zj Env.look at h;by_cases e:k=t
  ·subst e
   simp only[Nat.beq_refl,cond_true,Gs,T8] at h;exact⟨h.1.symm,0,rfl,by simp[h.2]⟩
  ·have:Nat.beq k t=Az:=Aed e
   rw[this,cond_false] at h;obtain⟨a,j,c,b⟩:=Ac3 r (k+1) t g v h;exact⟨a,j+1,Aa,by simpa using b⟩
theorem Aqj {f:FuncId}{fn:Func}{c:Code}{args:List Al}{R:Ending→Ak→Prop}{w:Ak} (d:P.funcs[f]?=some fn) (b:fn.body=some c) (i:fn.ntmps=n) (p:args.length≤n)
  (h:WK n (c.wp P (bodyPost P fn R)) (Zj args 0) C) (l:C w):Calls P f args.toArray w R:=by
 refine calls_of_wp d b (h _ w ⟨?_,rfl,?_⟩ l)
 ·simp[i];omega
 ·intro t g v k
  obtain⟨rfl,j,m,a⟩:=Ac3 args 0 t g v k;obtain rfl:t=j:=Aa;have e:t<args.length:=(Abw.1 a).1;simp only[cond_true];rw[Al7,Al6 (by simpa using e)];simp[a]
theorem PanicOk.then {K:Act→Ak→Prop} (h:PanicOk Q):PanicOk (Exit.then K Q):=h
theorem PanicOk.block {id:Nat} (h:PanicOk Q):PanicOk (Hi id Q):=h
theorem PanicOk.body {fn:Func}{R:Ending→Ak→Prop}:PanicOk (bodyPost P fn R):=fun c a d v w h=>by
 cases d <;> exact h
theorem Avh {a b:Bool} (h:a=true) (k:b=true):(a&&b)=true:=by rw[h,k];rfl
theorem Fm {b:Bool} (k:b=Az):(!b)=true:=by rw[k];rfl
end
end Go.Rd
end
section
namespace Go.Rd
open Go.RowKit
structure Res where
 foot:Nat→Prop
 holds:Ak→Prop
 stable:∀ w w',holds w→(∀ b,foot b→w'.heap[b]?=w.heap[b]?)→holds w'
structure Frame (M:Nat→Prop) (w0 w:Ak):Prop where
 os:w.os=w0.os
 tape:w.tape=w0.tape
 output:w.output=w0.output∧w0.drawn≤w.drawn
 size:w0.heap.size≤w.heap.size
 block:∀ b,b<w0.heap.size→¬M b→w.heap[b]?=w0.heap[b]?
def noM:Nat→Prop:=fun _=>False
theorem Frame.refl {M:Nat→Prop} (w:Ak):Frame M w w:=⟨rfl,rfl,⟨rfl,Co _⟩,Co _,fun _ _ _=>rfl⟩
theorem Frame.grow {w0 w:Ak} (h:Frame noM w0 w):Grow w0 w:=⟨h.os,h.tape,h.output,h.size,fun b a=>h.block b a (fun x=>x)⟩
theorem Frame.trans {M:Nat→Prop}{w0 w w':Ak} (h:Frame M w0 w) (k:Frame (fun b=>M b∨w0.heap.size≤b) w w'):Frame M w0 w' :=
 ⟨k.os.trans h.os,k.tape.trans h.tape,⟨k.output.1.trans h.output.1,Nl h.output.2 k.output.2⟩,Nl h.size k.size,fun b c a=>(k.block b (Abu c h.size) (by rintro(x | x);exact a x;omega)).trans (h.block b c a)⟩
def AllOwn (B:Nat→Prop) (w:Ak):List Res→Prop
 | []=>True
 | r::H=>(r.holds w∧(∀ b,r.foot b→B b∧b<w.heap.size)∧∀ s∈H,∀ b,r.foot b→¬s.foot b)∧AllOwn B w H
def A10 (M:Nat→Prop) (w0:Ak) (b:Nat):Prop:=M b∨w0.heap.size≤b
def Own (M:Nat→Prop) (w0:Ak) (H:List Res) (w:Ak):Prop:=Frame M w0 w∧AllOwn (A10 M w0) w H
theorem AllOwn.change {B:Nat→Prop}{w w':Ak} (hs:w.heap.size≤w'.heap.size):∀ {H:List Res},AllOwn B w H→(∀ r∈H,∀ b,r.foot b→w'.heap[b]?=w.heap[b]?)→AllOwn B w' H
 | [],_,_=>trivial
 | r::H,⟨⟨h1,h2,h3⟩,h4⟩,hk=>⟨⟨r.stable w w' h1 (hk r Bf),fun b a=>⟨(h2 b a).1,Abu (h2 b a).2 hs⟩,h3⟩,h4.change hs fun s c=>hk s (Z3 _ c)⟩
theorem AllOwn.lt {B:Nat→Prop}{w:Ak}:∀ {H:List Res},AllOwn B w H→∀ r∈H,∀ b,r.foot b→B b∧b<w.heap.size
 | r::H,⟨⟨_,h2,_⟩,h4⟩,s,hs,b,hb=>by
  rcases Gw.1 hs with rfl | hs
  ·exact h2 b hb
  ·exact h4.lt s hs b hb
section
variable {M : Nat → Prop} {w0 w w' : Ak} {H : List Res}
theorem Ga:Im (Own M w0 H):=fun w w' ⟨e,d⟩ a =>
 ⟨e.trans ⟨a.os,a.tape,a.output,a.size,fun b c _=>a.block b c⟩,d.change a.size fun r f b c=>a.block b (d.lt r f b c).2⟩
theorem Own.start (w0:Ak):Own noM w0 [] w0:=⟨Frame.refl _,trivial⟩
def D3:=@Own.start
theorem Own.grow (h:Own noM w0 H w):Grow w0 w:=h.1.grow
theorem Own.push (h:Own M w0 H w) (e:Grow w w') (r:Res) (f:r.holds w') (c:∀ b,r.foot b→w.heap.size≤b∧b<w'.heap.size):Own M w0 (r::H) w':=by
 have d:=Ga w w' h e;refine⟨d.1,⟨f,fun b a=>⟨.inr (Nl h.1.size (c b a).1),(c b a).2⟩,fun s hs b a g=>?_⟩,d.2⟩;have:=(h.2.lt s hs b g).2;have:=(c b a).1;omega
theorem Own.head {r:Res} (h:Own M w0 (r::H) w):r.holds w:=h.2.1.1
theorem Own.tail {r:Res} (h:Own M w0 (r::H) w):Own M w0 H w:=⟨h.1,h.2.2⟩
theorem AllOwn.at {B:Nat→Prop}{w:Ak}:∀ {H:List Res} (k:Nat) {r:Res},AllOwn B w H→H[k]?=some r→r.holds w
 | r::H,0,s,⟨⟨h1,_⟩,_⟩,hk=>by simp at hk;exact hk▸h1
 | r::H,k+1,s,⟨_,h4⟩,hk=>h4.at k (by simpa using hk)
theorem Own.at (h:Own M w0 H w) (k:Nat) {r:Res} (a:H[k]?=some r):r.holds w:=h.2.at k a
theorem AllOwn.upd {B:Nat→Prop}{w w':Ak} (hs:w.heap.size≤w'.heap.size):∀ {H:List Res} (k:Nat) {r e:Res},AllOwn B w H→H[k]?=some r →
  (∀ b,b<w.heap.size→¬r.foot b→w'.heap[b]?=w.heap[b]?)→e.holds w'→(∀ b,e.foot b→(r.foot b∨w.heap.size≤b)∧b<w'.heap.size)→(∀ b,w.heap.size≤b→B b)→AllOwn B w' (H.set k e)
 | s::H,0,r,e,⟨⟨h1,h2,h3⟩,h4⟩,hk,hch,hr',hf,hB=>by
  simp at hk;subst hk;refine⟨⟨hr',fun b a=>⟨?_,(hf b a).2⟩,fun t c b a d=>?_⟩,?_⟩
  ·rcases (hf b a).1 with h | h
   ·exact(h2 b h).1
   ·exact hB b h
  ·rcases (hf b a).1 with h | h
   ·exact h3 t c b h d
   ·have:=(h4.lt t c b d).2;omega
  ·exact h4.change hs fun t c b a=>hch b (h4.lt t c b a).2 fun f=>h3 t c b f a
 | s::H,k+1,r,e,⟨⟨h1,h2,h3⟩,h4⟩,hk,hch,hr',hf,hB=>by
  have g:H[k]?=some r:=by simpa using hk
  have i:r∈H:=Xs g;refine⟨⟨s.stable w w' h1 fun b a=>hch b (h2 b a).2 fun f=>h3 r i b a f,fun b a=>⟨(h2 b a).1,Abu (h2 b a).2 hs⟩,fun t c b a d=>?_⟩,h4.upd hs k g hch hr' hf hB⟩;rcases Ahb c with h | rfl
  ·exact h3 t h b a d
  ·rcases (hf b d).1 with h | h
   ·exact h3 r i b a h
   ·have:=(h2 b a).2;omega
theorem Own.upd (h:Own M w0 H w) (k:Nat) {r c:Res} (e:H[k]?=some r) (i:w'.os=w.os) (n:w'.tape=w.tape) (j:w'.output=w.output∧w.drawn≤w'.drawn) (hs:w.heap.size≤w'.heap.size)
  (d:∀ b,b<w.heap.size→¬r.foot b→w'.heap[b]?=w.heap[b]?) (l:c.holds w') (g:∀ b,c.foot b→(r.foot b∨w.heap.size≤b)∧b<w'.heap.size):Own M w0 (H.set k c) w':=by
 refine⟨h.1.trans ⟨i,n,j,hs,fun b a f=>d b a fun m=>?_⟩,h.2.upd hs k e d l g fun b a=>.inr (Nl h.1.size a)⟩;exact f (h.2.lt r (Xs e) b m).1
end
theorem Own.lt {w0 w:Ak}{H:List Res} (h:Own noM w0 H w):∀ r∈H,∀ b,r.foot b→w0.heap.size≤b∧b<w.heap.size:=fun r e b d=>by
 obtain⟨a,c⟩:=h.2.lt r e b d;exact⟨a.elim (fun x=>x.elim) id,c⟩
def blk (b:Nat) (cs:List Al) (T:TypeId):Res where
 foot:=fun x=>x=b
 holds:=fun w=>w.heap[b]?=some (.cells cs.toArray T (0,0))
 stable:=fun w w' h a=>(a b rfl).trans h
theorem Own.cell {M:Nat→Prop}{w0:Ak}{H:List Res} (k:Nat) {b:Nat}{cs:List Al}{T:TypeId}{off:Nat}{v:Al} (a:H[k]?=some (blk b cs T)) (c:cs[off]?=some v) :
  ∀ w,Own M w0 H w→w.cell? ⟨b,off,none⟩=some v:=fun w d=>by
 have h:w.heap[b]?=some (.cells cs.toArray T (0,0)):=d.at k a;simp[World.cell?,h,c]
def Aq:=@Own.cell
theorem Own.base {w0:Ak}{H:List Res}{p:Addr}{v:Al} (h:w0.cell? p=some v):∀ w,Own noM w0 H w→w.cell? p=some v:=fun w a=>by
 rw[a.grow.cell (Adp w0 p h)];exact h
def TypeDesc.agg:TypeDesc→Bool
 | .struct _ | .array _ _=>true
 | _=>Az
def N3 (P:Bz) (T:TypeId):Prop:=∃ d,P.underlying T=some d∧TypeDesc.agg d=Az
def Sg (P:Bz) (T:TypeId) (sz:Nat):Prop:=∃ d,P.underlying T=some d∧TypeDesc.agg d=true∧(P.info? T).map (·.size)=some sz
def Dt (P:Bz) (T:TypeId) (sz:Nat):Prop:=(P.info? T).map (·.size)=some sz
def ZeroT (P:Bz) (T:TypeId) (cs:List Al):Prop:=(P.info? T).map (fun i=>i.zero.map Ea)=some (some cs.toArray)
theorem ZeroT.out {P:Bz}{T:TypeId}{cs:List Al} (h:ZeroT P T cs):∃ i v,P.info? T=some i∧i.zero=some v∧v.cells=cs.toArray:=by
 obtain⟨i,a,b⟩:=K7.1 h;obtain⟨v,c,d⟩:=K7.1 b;exact⟨i,v,a,c,d⟩
def Cb (P:Bz) (T:TypeId) (f off:Nat):Prop:=∃ b a sz,P.underlying T=some (.struct b)∧b[f]?=some a∧a.offset=off∧(P.info? a.type).map (·.size)=some (sz+1)
def Je (P:Bz) (T E:TypeId) (sz:Nat):Prop:=P.underlying T=some (.slice E)∧(P.info? E).map (·.size)=some sz
def Amq (P:Bz) (T:TypeId) (len sz:Nat):Prop:=∃ E,P.underlying T=some (.array len E)∧(P.info? E).map (·.size)=some sz
def Enters (P : Bz) (f : FuncId) : Prop := ∃ fn, P.funcs[f]? = some fn ∧ fn.body.isNone = Az ∧ (fn.name == "runtime.NumGoroutine") = Az
section
variable {P : Bz} {σ : Env} {C : Ak → Prop} {d : Option Tmp} {T U : TypeId} {pos : String} {after : Array Edge} {gd : Option (Nat × Bool)} {x y : En} {z : TypeId} {g g' g'' : Bool} {v : Al}
theorem Aiq (a:Act) (v:Al):a.eval (.const v)=v:=rfl
theorem QV.of_run {o:Oper} (h:∀ n a,Has n a σ→∀ w,C w→(execOp a.eval o).run P w=.ok (.value v) w):QV P o σ C v:=fun n a b w c=>.inl (h n a b w c)
theorem QV.move (e:σ.ev x=some (g,v)) (c:g=true):QV P ⟨d,.move x,T,pos,after,gd⟩ σ C v:=.of_run fun n a b w f=>by
 simp[execOp,b.ev e c]
theorem QV.assign (e:σ.ev x=some (g,v)) (c:g=true):QV P ⟨d,.assign x,T,pos,after,gd⟩ σ C v:=.of_run fun n a b w f=>by
 simp[execOp,b.ev e c]
theorem A7 {p q:Bool} (e:σ.ev x=some (g,.bool p)) (c:g=true) (h:σ.ev y=some (g',.bool q)) (f:p=true→g'=true) :
  QV P ⟨d,.pick x y (.const (.bool Az)),T,pos,after,gd⟩ σ C (.bool (p&&q)):=.of_run fun n a b w i=>by
 cases p with
 | true=>simp[execOp,b.ev e c,b.ev h (f rfl),asBool]
 | false=>simp[execOp,b.ev e c,asBool,Aiq]
theorem Bc {p q:Bool} (e:σ.ev x=some (g,.bool p)) (c:g=true) (h:σ.ev y=some (g',.bool q)) (f:p=Az→g'=true) :
  QV P ⟨d,.pick x (.const (.bool true)) y,T,pos,after,gd⟩ σ C (.bool (p || q)):=.of_run fun n a b w i=>by
 cases p with
 | false=>simp[execOp,b.ev e c,b.ev h (f rfl),asBool]
 | true=>simp[execOp,b.ev e c,asBool,Aiq]
theorem QV.not {p:Bool} (e:σ.ev x=some (g,.bool p)) (c:g=true):QV P ⟨d,.unOp .not U x,T,pos,after,gd⟩ σ C (.bool (!p)):=.of_run fun n a b w f=>by
 simp[execOp,b.ev e c,Op.unary]
theorem QV.eql {k:IntKind}{i j:Int} (f:σ.ev x=some (g,.int k i)) (c:g=true) (h:σ.ev y=some (g',.int k j)) (e:g'=true):QV P ⟨d,.binOp .eql U x y z,T,pos,after,gd⟩ σ C (.bool (i==j)):=.of_run fun n a b w l=>by
 simp[execOp,b.ev f c,b.ev h e,Rm,binOp,Op.intCmp]
theorem QV.neq {k:IntKind}{i j:Int} (f:σ.ev x=some (g,.int k i)) (c:g=true) (h:σ.ev y=some (g',.int k j)) (e:g'=true):QV P ⟨d,.binOp .neq U x y z,T,pos,after,gd⟩ σ C (.bool (i != j)):=.of_run fun n a b w l=>by
 simp[execOp,b.ev f c,b.ev h e,Rm,binOp,Op.intCmp]
theorem QV.lss {k:IntKind}{i j:Int} (f:σ.ev x=some (g,.int k i)) (c:g=true) (h:σ.ev y=some (g',.int k j)) (e:g'=true):QV P ⟨d,.binOp .lss U x y z,T,pos,after,gd⟩ σ C (.bool (Ap (i<j))):=.of_run fun n a b w l=>by
 simp[execOp,b.ev f c,b.ev h e,Rm,binOp,Op.intCmp]
theorem QV.leq {k:IntKind}{i j:Int} (f:σ.ev x=some (g,.int k i)) (c:g=true) (h:σ.ev y=some (g',.int k j)) (e:g'=true):QV P ⟨d,.binOp .leq U x y z,T,pos,after,gd⟩ σ C (.bool (Ap (i≤j))):=.of_run fun n a b w l=>by
 simp[execOp,b.ev f c,b.ev h e,Rm,binOp,Op.intCmp]
theorem QV.gtr {k:IntKind}{i j:Int} (f:σ.ev x=some (g,.int k i)) (c:g=true) (h:σ.ev y=some (g',.int k j)) (e:g'=true):QV P ⟨d,.binOp .gtr U x y z,T,pos,after,gd⟩ σ C (.bool (Ap (i>j))):=.of_run fun n a b w l=>by
 simp[execOp,b.ev f c,b.ev h e,Rm,binOp,Op.intCmp]
theorem QV.geq {k:IntKind}{i j:Int} (f:σ.ev x=some (g,.int k i)) (c:g=true) (h:σ.ev y=some (g',.int k j)) (e:g'=true):QV P ⟨d,.binOp .geq U x y z,T,pos,after,gd⟩ σ C (.bool (Ap (i≥j))):=.of_run fun n a b w l=>by
 simp[execOp,b.ev f c,b.ev h e,Rm,binOp,Op.intCmp]
theorem Au1 {k:IntKind}{i j:Int} (f:σ.ev x=some (g,.int k i)) (c:g=true) (h:σ.ev y=some (g',.int k j)) (e:g'=true):QV P ⟨d,.binOp .add U x y z,T,pos,after,gd⟩ σ C (.int k (k.wrap (i+j))):=.of_run fun n a b w l=>by
 simp[execOp,b.ev f c,b.ev h e,Rm,binOp,Op.intArith]
theorem Af4 {k:IntKind}{i j:Int} (f:σ.ev x=some (g,.int k i)) (c:g=true) (h:σ.ev y=some (g',.int k j)) (e:g'=true):QV P ⟨d,.binOp .sub U x y z,T,pos,after,gd⟩ σ C (.int k (k.wrap (i - j))):=.of_run fun n a b w l=>by
 simp[execOp,b.ev f c,b.ev h e,Rm,binOp,Op.intArith]
theorem Au0 {k:IntKind}{i j:Int} (f:σ.ev x=some (g,.int k i)) (c:g=true) (h:σ.ev y=some (g',.int k j)) (e:g'=true):QV P ⟨d,.binOp .mul U x y z,T,pos,after,gd⟩ σ C (.int k (k.wrap (i * j))):=.of_run fun n a b w l=>by
 simp[execOp,b.ev f c,b.ev h e,Rm,binOp,Op.intArith]
theorem Af5 {k:IntKind}{i j:Int} (f:σ.ev x=some (g,.int k i)) (c:g=true) (h:σ.ev y=some (g',.int k j)) (e:g'=true):QV P ⟨d,.binOp .and U x y z,T,pos,after,gd⟩ σ C (.int k (k.wrap (K6 k.bits i &&& K6 k.bits j).toNat)):=.of_run fun n a b w l=>by
 simp[execOp,b.ev f c,b.ev h e,Rm,binOp,Op.intBits]
theorem A6w {k:IntKind}{i j:Int} (f:σ.ev x=some (g,.int k i)) (c:g=true) (h:σ.ev y=some (g',.int k j)) (e:g'=true):QV P ⟨d,.binOp .or U x y z,T,pos,after,gd⟩ σ C (.int k (k.wrap (K6 k.bits i ||| K6 k.bits j).toNat)):=.of_run fun n a b w l=>by
 simp[execOp,b.ev f c,b.ev h e,Rm,binOp,Op.intBits]
theorem A3w {k:IntKind}{i j:Int} (f:σ.ev x=some (g,.int k i)) (c:g=true) (h:σ.ev y=some (g',.int k j)) (e:g'=true):QV P ⟨d,.binOp .xor U x y z,T,pos,after,gd⟩ σ C (.int k (k.wrap (K6 k.bits i ^^^ K6 k.bits j).toNat)):=.of_run fun n a b w l=>by
 simp[execOp,b.ev f c,b.ev h e,Rm,binOp,Op.intBits]
theorem A30 {k:IntKind}{i j:Int} (h:σ.ev x=some (g,.int k i)) (e:g=true) (l:σ.ev y=some (g',.int k j)) (f:g'=true) (c:j≠0):QV P ⟨d,.binOp .quo U x y z,T,pos,after,gd⟩ σ C (.int k (k.wrap (i.tdiv j))):=.of_run fun n a b w m=>by
 simp[execOp,b.ev h e,b.ev l f,Rm,binOp,Op.intDiv,c]
theorem QV.rem {k:IntKind}{i j:Int} (h:σ.ev x=some (g,.int k i)) (e:g=true) (l:σ.ev y=some (g',.int k j)) (f:g'=true) (c:j≠0):QV P ⟨d,.binOp .rem U x y z,T,pos,after,gd⟩ σ C (.int k (i.tmod j)):=.of_run fun n a b w m=>by
 simp[execOp,b.ev h e,b.ev l f,Rm,binOp,Op.intDiv,c]
theorem A3z {k k':IntKind}{i j:Int} (h:σ.ev x=some (g,.int k i)) (e:g=true) (l:σ.ev y=some (g',.int k' j)) (f:g'=true) (c:0≤j) :
  QV P ⟨d,.binOp .shl U x y z,T,pos,after,gd⟩ σ C (.int k (k.wrap (i * 2 ^ (min j.toNat k.bits)))):=.of_run fun n a b w m=>by
 simp[execOp,b.ev h e,b.ev l f,Rm,binOp,Op.shift,Int.not_lt.2 c]
theorem Auy {k k':IntKind}{i j:Int} (h:σ.ev x=some (g,.int k i)) (e:g=true) (l:σ.ev y=some (g',.int k' j)) (f:g'=true) (c:0≤j) :
  QV P ⟨d,.binOp .shr U x y z,T,pos,after,gd⟩ σ C (.int k (i.fdiv (2 ^ (min j.toNat k.bits)))):=.of_run fun n a b w m=>by
 simp[execOp,b.ev h e,b.ev l f,Rm,binOp,Op.shift,Int.not_lt.2 c]
theorem Jl {n:Int} (a:-9223372036854775808≤n) (b:n≤9223372036854775807):IntKind.i64.wrap n=n:=IntWalk.i64_in n Aa
theorem QV.add {i j:Int} (e:σ.ev x=some (g,.int .i64 i)) (b:g=true) (f:σ.ev y=some (g',.int .i64 j)) (c:g'=true) (a:-9223372036854775808≤i+j∧i+j≤9223372036854775807) :
  QV P ⟨d,.binOp .add U x y z,T,pos,after,gd⟩ σ C (.int .i64 (i+j)):=by
 have:=Au1 (P:=P) (C:=C) (d:=d) (T:=T) (U:=U) (pos:=pos) (after:=after) (gd:=gd) (z:=z) e b f c;rwa [Jl a.1 a.2] at this
def A6:=@QV.add
theorem QV.sub {i j:Int} (e:σ.ev x=some (g,.int .i64 i)) (b:g=true) (f:σ.ev y=some (g',.int .i64 j)) (c:g'=true) (a:-9223372036854775808≤i - j∧i - j≤9223372036854775807) :
  QV P ⟨d,.binOp .sub U x y z,T,pos,after,gd⟩ σ C (.int .i64 (i - j)):=by
 have:=Af4 (P:=P) (C:=C) (d:=d) (T:=T) (U:=U) (pos:=pos) (after:=after) (gd:=gd) (z:=z) e b f c;rwa [Jl a.1 a.2] at this
def D2:=@QV.sub
theorem QV.mul {i j:Int} (e:σ.ev x=some (g,.int .i64 i)) (b:g=true) (f:σ.ev y=some (g',.int .i64 j)) (c:g'=true) (a:-9223372036854775808≤i * j∧i * j≤9223372036854775807) :
  QV P ⟨d,.binOp .mul U x y z,T,pos,after,gd⟩ σ C (.int .i64 (i * j)):=by
 have:=Au0 (P:=P) (C:=C) (d:=d) (T:=T) (U:=U) (pos:=pos) (after:=after) (gd:=gd) (z:=z) e b f c;rwa [Jl a.1 a.2] at this
theorem QV.fieldAddr {f off:Nat}{q:Addr} (h:Cb P U f off) (l:σ.ev x=some (g,.pointer (some q))) (k:g=true) :
  QV P ⟨d,.fieldAddr U x f,T,pos,after,gd⟩ σ C (.pointer (some (q.add off))):=.of_run fun n a j w p=>by
 obtain⟨o,m,sz,b,c,rfl,e⟩:=h;obtain⟨i,hi,hs⟩:=K7.1 e;simp[execOp,j.ev l k,Instr.fieldAt,E5 b,c,Rb,fieldPlace,sizeOf,typeInfo,hi,hs]
def Lw (v:Al) (i:Int) (sz:Nat) (p:Addr):Prop:=∃ a n c,v=.slice (some a) n c∧0≤i∧i<n∧p=a.add (i.toNat * sz)
theorem Ae {E:TypeId}{sz:Nat}{i:Int}{k:IntKind}{p:Addr} (b:Je P U E sz) (r:σ.ev x=some (g,v)) (l:g=true) (s:σ.ev y=some (g',.int k i)) (o:g'=true) (q:Lw v i sz p) :
  QV P ⟨d,.indexAddr U x y,T,pos,after,gd⟩ σ C (.pointer (some p)):=.of_run fun n a e w t=>by
 obtain⟨a0,m,c,rfl,f,h,rfl⟩:=q;obtain⟨b,j⟩:=b;obtain⟨u,hi,hs⟩:=K7.1 j;simp[execOp,e.ev r l,e.ev s o,Instr.indexAt,asIntOf,E5 b,f,h,sizeOf,typeInfo,hi,hs]
theorem Cr {len sz:Nat}{i:Int}{k:IntKind}{q:Addr} (b:Amq P U len sz) (m:σ.ev x=some (g,.pointer (some q))) (j:g=true) (o:σ.ev y=some (g',.int k i)) (l:g'=true) (e:0≤i) (f:i<len) :
  QV P ⟨d,.indexAddr U x y,T,pos,after,gd⟩ σ C (.pointer (some (q.add (i.toNat * sz)))):=.of_run fun n a c w p=>by
 obtain⟨E,b,h⟩:=b;obtain⟨r,hi,hs⟩:=K7.1 h;simp[execOp,c.ev m j,c.ev o l,Instr.indexAt,asIntOf,Rb,E5 b,e,f,sizeOf,typeInfo,hi,hs]
theorem Rh (b:N3 P T) (w:Ak):(isAgg T).run P w=.ok Az w:=by
 obtain⟨dd,a,c⟩:=b
 cases dd <;> simp_all [isAgg,E5 a,TypeDesc.agg]
theorem Aaf {sz:Nat} (b:Sg P T sz) (w:Ak):(isAgg T).run P w=.ok true w:=by
 obtain⟨dd,a,c,_⟩:=b
 cases dd <;> simp_all [isAgg,E5 a,TypeDesc.agg]
theorem Ajb {w:Ak}{p:Addr} (h:w.cell? p=some v):(load p).run P w=.ok v w:=by
 simp[load,Jg,h]
theorem QV.load {q:Addr} (b:N3 P U) (i:σ.ev x=some (g,.pointer (some q))) (f:g=true) (e:∀ w,C w→w.cell? q=some v) :
  QV P ⟨d,.load U x,T,pos,after,gd⟩ σ C v:=.of_run fun n a c w h=>by
 simp[execOp,c.ev i f,Instr.loadAt,Rb,loadVar,Rh b,e w h]
def Cs:=@QV.load
def CellsAt (w:Ak) (q:Addr):List Al→Nat→Prop
 | [],_=>True
 | v::r,k=>w.cell? (q.add k)=some v∧CellsAt w q r (k+1)
theorem Pz {w:Ak}{q:Addr}:∀ (l:List Al) (k:Nat) (a:Array Al),CellsAt w q l k→(loadCellsFrom q k l.length a).run P w=.ok (a++l.toArray) w
 | [],k,a,_=>by simp[loadCellsFrom]
 | v::r,k,a,⟨h1,h2⟩=>by
  simp only[Ef,loadCellsFrom];simp[Ajb h1,Pz r (k+1) (a.push v) h2]
theorem Af {q:Addr}{sz:Nat}{cs:List Al} (b:Sg P U sz) (j:cs.length=sz) (l:σ.ev x=some (g,.pointer (some q))) (i:g=true) (h:∀ w,C w→CellsAt w q cs 0) :
  QV P ⟨d,.load U x,T,pos,after,gd⟩ σ C (.agg cs.toArray):=.of_run fun n a f w k=>by
 have e:=Aaf b w;obtain⟨dd,m,o,c⟩:=b;obtain⟨p,hi,hs⟩:=K7.1 c;have:=Pz (P:=P) cs 0 #[] (h w k);rw[j] at this;simp[execOp,f.ev l i,Instr.loadAt,Rb,loadVar,e,sizeOf,typeInfo,hi,hs,loadCells,this]
theorem QV.len {a0:Option Addr}{m c:Nat}{E:TypeId} (b:P.underlying U=some (.slice E)) (h:σ.ev x=some (g,.slice a0 m c)) (f:g=true) :
  QV P ⟨d,.call ⟨.builtin .len,#[x],#[U]⟩,T,pos,after,gd⟩ σ C (.int .i64 m):=.of_run fun n a e w i=>by
 simp[execOp,resolve,invoke,builtin,e.ev h f,Builtin.len_,E5 b,goInt]
theorem QV.nilCheck {q:Addr} (e:σ.ev x=some (g,.pointer (some q))) (c:g=true):QV P ⟨d,.nilCheck x,T,pos,after,gd⟩ σ C (.pointer (some q)):=.of_run fun n a b w f=>by
 simp[execOp,b.ev e c]
theorem QV.extract {l:List Al}{k:Nat} (f:σ.ev x=some (g,.tuple l.toArray)) (c:g=true) (e:l[k]?=some v):QV P ⟨d,.extract x k,T,pos,after,gd⟩ σ C v:=.of_run fun n a b w h=>by
 simp[execOp,b.ev f c,Instr.extract,e]
def Bi:=@QV.extract
theorem QV.intToInt {k k':IntKind}{i:Int} (e:P.underlying U=some (.int k)) {S:TypeId}{b:TypeDesc} (c:P.underlying S=some b) (j:σ.ev x=some (g,.int k' i)) (h:g=true) :
  QV P ⟨d,.convert S U x,T,pos,after,gd⟩ σ C (.int k (k.wrap i)):=.of_run fun n a f w l=>by
 simp[execOp,f.ev j h,convert,E5 e,E5 c,Conv.intToInt]
def Rj:=@QV.intToInt
def EvAll (σ:Env):List En→List Al→Prop
 | [],[]=>True
 | x::xs,v::vs=>(∃ g,σ.ev x=some (g,v)∧g=true)∧EvAll σ xs vs
 | _,_=>False
theorem EvAll.map {n:Nat}{a:Act} (b:Has n a σ):∀ {xs:List En}{vs:List Al},EvAll σ xs vs→xs.map a.eval=vs
 | [],[],_=>rfl
 | x::xs,v::vs,⟨⟨g,h1,h2⟩,h3⟩=>by simp[b.ev h1 h2,EvAll.map b h3]
theorem EvAll.nil:EvAll σ [] []:=trivial
theorem EvAll.cons {xs:List En}{vs:List Al} (a:σ.ev x=some (g,v)) (b:g=true) (c:EvAll σ xs vs):EvAll σ (x::xs) (v::vs):=⟨⟨g,a,b⟩,c⟩
def De:=@EvAll.cons
theorem Pw {f : FuncId} (j : Enters P f) (args : Array Al) (w : Ak) : (callFunc f args).run P w = .ok (.enter f args) w := by
 obtain⟨fn, a, b, e⟩ := j
 have c : ¬ fn.body = none := by intro h; simp[h] at b
 have i : ¬ fn.name = "runtime.NumGoroutine" := by simpa using e
 simp[callFunc, a, c, i]
theorem QV.call {f:FuncId}{xs:List En}{b:Array TypeId}{vs:List Al} (i:Enters P f) (j:EvAll σ xs vs) (h:∀ w,C w→Calls P f vs.toArray w (fun e l=>e=.returned v∧Grow w l)) :
  QV P ⟨d,.call ⟨.value (.func f),xs.toArray,b⟩,T,pos,after,gd⟩ σ C v:=fun n a c w k=>by
 refine .inr ⟨f,vs.toArray,?_,h w k⟩;have:=j.map c;simp[execOp,resolve,Adg,Act.eval,invoke,Pw i,this]
theorem N6 {f:FuncId}{xs:List En}{c:Array TypeId}{vs cs:List Al} (i:Enters P f) (m:σ.ev x=some (g,.func (.func f) #[] cs.toArray)) (j:g=true) (k:EvAll σ xs vs)
  (h:∀ w,C w→Calls P f (vs++cs).toArray w (fun e o=>e=.returned v∧Grow w o)) :
  QV P ⟨d,.call ⟨.value x,xs.toArray,c⟩,T,pos,after,gd⟩ σ C v:=fun n a b w l=>by
 refine .inr ⟨f,(vs++cs).toArray,?_,h w l⟩;have:=k.map b;simp[execOp,resolve,Adg,b.ev m j,invoke,Pw i,this]
end
end Go.Rd
end
section
namespace Go.Rd
open Go.RowKit
theorem Ng (a:Addr) (i j:Nat):(a.add i).add j=a.add (i+j):=by
 unfold Ma;by_cases hi:i=0 <;> by_cases b:j=0 <;> simp[hi,b];omega
theorem CellsAt.get {w:Ak}{q:Addr}:∀ {l:List Al}{k:Nat} (j:Nat) {v:Al},CellsAt w q l k→l[j]?=some v→w.cell? (q.add (k+j))=some v
 | u::r,k,0,v,⟨h1,_⟩,hv=>by simp at hv;subst hv;exact h1
 | u::r,k,j+1,v,⟨_,h2⟩,hv=>by
  have:=h2.get j (by simpa using hv);rwa [show k+1+j=k+(j+1) from Aa] at this
theorem CellsAt.one {w:Ak}{q:Addr}{l:List Al} (j:Nat) {v:Al} (h:CellsAt w q l 0) (a:l[j]?=some v):w.cell? (q.add j)=some v:=by
 have:=h.get j a;rwa [Tf] at this
theorem CellsAt.of {w:Ak}{q:Addr}:∀ {l:List Al}{k:Nat},(∀ j v,l[j]?=some v→w.cell? (q.add (k+j))=some v)→CellsAt w q l k
 | [],_,_=>trivial
 | u::r,k,h=>⟨by simpa using h 0 u rfl,CellsAt.of fun j v a=>by
   have:=h (j+1) v (by simpa using a)
   rwa [show k+(j+1)=k+1+j from Aa] at this⟩
def An7:=@CellsAt.of
theorem CellsAt.mono {w w':Ak}{q:Addr} (h:∀ a v,w.cell? a=some v→w'.cell? a=some v):∀ {l:List Al}{k:Nat},CellsAt w q l k→CellsAt w' q l k
 | [],_,_=>trivial
 | u::r,k,⟨h1,h2⟩=>⟨h _ _ h1,h2.mono h⟩
def SliceLen (v:Al) (n:Nat):Prop:=∃ a c,v=.slice a n c∧(0<n→a.isSome=true)∧n≤c
structure Arr (w:Ak) (v:Al) (sz:Nat) (rows:List (List Al)):Prop where
 len:SliceLen v rows.length
 row:∀ (i:Nat) r p,rows[i]?=some r→Lw v i sz p→CellsAt w p r 0
theorem SliceLen.elem {v:Al}{n:Nat} (h:SliceLen v n) (sz:Nat) (i:Int) (b:0≤i) (d:i<n):∃ p,Lw v i sz p:=by
 obtain⟨a,c,rfl,hs,_⟩:=h;obtain⟨a,rfl⟩:=Aha.1 (hs Aa);exact⟨_,a,n,c,rfl,b,d,rfl⟩
theorem Arr.at {α:Type}{w:Ak}{v:Al}{sz:Nat}{xs:List α}{enc:α→List Al} (d:α) (h:Arr w v sz (xs.map enc)) (i:Int) (a:0≤i) (b:i<xs.length) :
  ∃ p,Lw v i sz p∧CellsAt w p (enc (xs.getD i.toNat d)) 0:=by
 obtain⟨p,e⟩:=h.len.elem sz i a (by simpa using b);refine⟨p,e,h.row i.toNat _ p ?_ (by rwa [Aep a])⟩;have c:i.toNat<xs.length:=Aa;simp[Ec,E7 c]
theorem Arr.lenMap {α:Type}{w:Ak}{v:Al}{sz:Nat}{xs:List α}{enc:α→List Al} (h:Arr w v sz (xs.map enc)):SliceLen v xs.length:=by
 have:=h.len;rwa [Gl] at this
theorem Arr.mono {w w':Ak}{v:Al}{sz:Nat}{rows:List (List Al)} (h:Arr w v sz rows) (b:∀ a u,w.cell? a=some u→w'.cell? a=some u):Arr w' v sz rows :=
 ⟨h.len,fun i r p d c=>(h.row i r p d c).mono b⟩
theorem Arr.grow {w w':Ak}{v:Al}{sz:Nat}{rows:List (List Al)} (h:Arr w v sz rows) (c:Grow w w'):Arr w' v sz rows :=
 h.mono fun a u b=>by rw[c.cell (Adp w a b)];exact b
theorem Arr.nil {w:Ak}{sz:Nat}:Arr w (.slice none 0 0) sz []:=⟨⟨none,0,rfl,Bf,Co _⟩,fun i r p a=>by simp at a⟩
def Gr:=@Arr.nil
theorem Own.cells {w0:Ak}{H:List Res}{p:Addr}{l:List Al} (h:CellsAt w0 p l 0):∀ w,Own noM w0 H w→CellsAt w p l 0:=fun w c =>
 h.mono fun a v b=>Own.base b w c
theorem Ac {M:Nat→Prop}{w0:Ak}{H:List Res} (k:Nat) {b:Nat}{cs:List Al}{T:TypeId} (a:H[k]?=some (blk b cs T)) :
  ∀ w,Own M w0 H w→CellsAt w ⟨b,0,none⟩ cs 0:=fun w d=>An7 fun j v c=>by
 have:=Aq (w0:=w0) (H:=H) k a c w d;rw[Tf];unfold Ma;split
 ·subst_vars;exact this
 ·simpa using this
theorem CellsAt.sub {w:Ak}{q:Addr}{l:List Al} (off len:Nat) (h:CellsAt w q l 0) {r:List Al} (b:(l.drop off).take len=r):CellsAt w (q.add off) r 0:=An7 fun j v a=>by
 rw[Tf,Ng];refine h.one (off+j) ?_;rw[←b,Rp] at a;split at a
 ·simpa[Ya] using a
 ·cases a
section
variable {P : Bz} {n : Nat} {σ : Env} {M : Nat → Prop} {w0 : Ak} {H : List Res} {d : Option Tmp} {T U : TypeId} {pos : String} {after : Array Edge} {gd : Option (Nat × Bool)} {x y : En} {g g' : Bool} {v : Al} {C : Ak → Prop}
 {K:Act→Ak→Prop}{Q:Exit→Act→Ak→Prop}
theorem A5 {m:Nat}{E:TypeId} (b:P.underlying U=some (.slice E)) (h:σ.ev x=some (g,v)) (e:g=true) (f:SliceLen v m) :
  QV P ⟨d,.call ⟨.builtin .len,#[x],#[U]⟩,T,pos,after,gd⟩ σ C (.int .i64 m):=by
 obtain⟨a,c,rfl,_⟩:=f;exact QV.len b h e
theorem EV.new {o:Oper}{dd:Nat}{cs:List Al} (h:o.dst=some dd) (i:dd<n)
  (j:∀ a w,Has n a σ→Own M w0 H w→(execOp a.eval o).run P w=.ok (.value (.pointer (some ⟨w.heap.size,0,none⟩))) (w.alloc (.cells cs.toArray T)))
  (k:∀ b,WK n K ((dd,(true,.pointer (some ⟨b,0,none⟩)))::σ) (Own M w0 (blk b cs T::H))):EV P n o σ (Own M w0 H) K Q:=fun a w c e=>by
 refine .inl ?_;unfold Ii;rw[j a w c e];show K (a.put o.dst _) _;rw[h];refine k w.heap.size _ _ (c.put i true _) (e.push (w':=w.alloc (.cells cs.toArray T)) ?_ (blk w.heap.size cs T) ?_ ?_)
 ·exact Aqq _
 ·exact Adh w _
 ·intro b f
  subst f;simp
theorem A4 {dd:Nat}{cs:List Al} (f:dd<n) (h:σ.ev x=some (g,.agg cs.toArray)) (e:g=true)
  (k:∀ b,WK n K ((dd,(true,.pointer (some ⟨b,0,none⟩)))::σ) (Own M w0 (blk b cs T::H))):EV P n ⟨some dd,.box T x,U,pos,after,gd⟩ σ (Own M w0 H) K Q :=
 EV.new rfl f (fun a w c i=>by simp[execOp,Instr.box,newVar,newRow,newObj,c.ev h e,Jg,Ea]) k
theorem A34 {dd:Nat} (f:dd<n) (i:σ.ev x=some (g,v)) (e:g=true) (h:v.cells=#[v])
  (k:∀ b,WK n K ((dd,(true,.pointer (some ⟨b,0,none⟩)))::σ) (Own M w0 (blk b [v] T::H))):EV P n ⟨some dd,.box T x,U,pos,after,gd⟩ σ (Own M w0 H) K Q :=
 EV.new rfl f (fun a w c j=>by simp[execOp,Instr.box,newVar,newRow,newObj,c.ev i e,Jg,h]) k
theorem EV.alloc {dd:Nat}{cs:List Al} (h:dd<n) (j:ZeroT P T cs)
  (k:∀ b,WK n K ((dd,(true,.pointer (some ⟨b,0,none⟩)))::σ) (Own M w0 (blk b cs T::H))):EV P n ⟨some dd,.alloc T,U,pos,after,gd⟩ σ (Own M w0 H) K Q:=by
 obtain⟨i,z,c,e,f⟩:=j.out;exact EV.new rfl h (fun a w l m=>by simp[execOp,Instr.alloc,newVar,newRow,newObj,Jg,zeroValue,typeInfo,c,e,f]) k
def B9:=@EV.alloc
def Nz:List Al→Nat→List Al→List Al
 | l,_,[]=>l
 | l,off,v::r=>Nz (l.set off v) (off+1) r
theorem Gm:∀ (r l:List Al) (off:Nat),(Nz l off r).length=l.length
 | [],_,_=>rfl
 | v::r,l,off=>by unfold Nz;rw[Gm r];simp
theorem Ap7 {w:Ak}{b:Nat}{cs:List Al}{off:Nat} (h:w.heap[b]?=some (.cells cs.toArray T (0,0))):(w.setCell ⟨b,off,none⟩ v).heap[b]?=some (.cells (cs.set off v).toArray T (0,0)):=by
 simp[World.setCell,Aer,h]
theorem Gv {b:Nat}:∀ (vs:List Al) (q:Addr) (i off:Nat) (cs:List Al) (w:Ak),w.heap[b]?=some (.cells cs.toArray T (0,0))→q.add i=⟨b,off,none⟩→off+vs.length≤cs.length →
  (∀ v∈vs,v.oneCell'=true) →
  ∃ w',(storeCells q vs i).run P w=.ok () w'∧w'.heap[b]?=some (.cells (Nz cs off vs).toArray T (0,0))∧(∀ k,k≠b→w'.heap[k]?=w.heap[k]?)∧w'.heap.size=w.heap.size∧w'.os=w.os∧w'.tape=w.tape∧(w'.output=w.output∧w.drawn≤w'.drawn)
 | [],q,i,off,cs,w,h,_,_,_=>⟨w,by simp[storeCells],h,fun _ _=>rfl,rfl,rfl,rfl,rfl,Co _⟩
 | v::vs,q,i,off,cs,w,h,hq,hl,hc=>by
  have p:off<cs.length:=by simp only[Ef] at hl;omega
  have Sm:w.cell? ⟨b,off,none⟩=some cs[off]:=by simp[World.cell?,h,p]
  have z:w.frozen? ⟨b,off,none⟩=Az:=by simp[World.frozen?,h]
  have r:q.add (i+1)=⟨b,off+1,none⟩:=by rw[←Ng,hq];simp[Ma]
  obtain⟨w',c,e,f,j,l,m,o⟩:=Gv vs q (i+1) (off+1) (cs.set off v) (w.setCell ⟨b,off,none⟩ v) (Ap7 h) r
   (by simp only[Ef,List.length_set] at hl ⊢;omega) (fun u t=>hc u (Z3 _ t))
  have s:(store ⟨b,off,none⟩ v).run P w=.ok () (w.setCell ⟨b,off,none⟩ v):=by
   have:=hc v (Aav ..)
   cases v <;> simp_all [store,Jg,Value.oneCell']
  refine⟨w',?_,e,fun k a=>(f k a).trans (Below.heap_setCell _ _ _ _ a),by simpa using j,by simpa[World.setCell] using l,by simpa[World.setCell] using m,by simpa[World.setCell] using o⟩;simp[storeCells,hq,s,c]
theorem EV.store (k:Nat) {b off:Nat}{q:Addr}{cs vs:List Al}{E:TypeId} (N:σ.ev x=some (g,.pointer (some q))) (t:g=true) (O:σ.ev y=some (g',v)) (z:g'=true)
  (i:H[k]?=some (blk b cs E)) (G:q=⟨b,off,none⟩) (L:v.cells=vs.toArray) (hs:Dt P T vs.length) (A:off+vs.length≤cs.length) (F:∀ u∈vs,u.oneCell'=true)
  (kk:WK n K σ (Own M w0 (H.set k (blk b (Nz cs off vs) E)))):EV P n ⟨none,.store T x y,U,pos,after,gd⟩ σ (Own M w0 H) K Q:=fun a w e j=>by
 refine .inl ?_;subst G;have f:w.heap[b]?=some (.cells cs.toArray E (0,0)):=j.at k i;obtain⟨w',l,m,o,R,p,r,s⟩:=Gv (P:=P) vs ⟨b,off,none⟩ 0 off cs w f (by simp[Ma]) A F;obtain⟨V,hi,J⟩:=K7.1 hs
 have I:(execOp a.eval ⟨none,.store T x y,U,pos,after,gd⟩).run P w=.ok .skip w':=by
  simp[execOp,e.ev N t,e.ev O z,Instr.storeAt,Rb,storeVar,L,sizeOf,typeInfo,hi,J,l]
 unfold Ii;rw[I];show K (a.put none undef) w';refine kk a w' e (j.upd k i p r s Aa (fun c h B=>o c B) m fun c h=>?_);have:c=b:=h;subst this;have S:c<w.heap.size:=(Rs.1 f).1;exact⟨.inl rfl,Aa⟩
end
end Go.Rd
end
section
namespace Go.Rd
open Go.RowKit Go.ChangeShapes Go.WideShapes Go.ChangeAt
section
variable {H : Type} {enc : TypeId × Al → H} {P : Bz}
theorem Aab (g:laidOutB P=true) {W W':Ak} (f:Below W.heap.size W W'):∀ {a:List TypeId}{vs:List Al}{c:List (DataW H)}{ps:List MemPlace},
  DataW.TrodAll enc P W 0 (fun _=>true) true a vs c ps→(∀ t∈a,P.readableRec t=true∧t<P.types.size)→(∀ x∈ps,x.block<W.heap.size) →
  DataW.TrodAll enc P W' 0 (fun b=>Ap (b<W.heap.size)) true a vs c ps
 | [],[],[],ps,h,_,_=>h
 | t::a,v::vs,d::c,ps,h,hr,hlt=>by
  obtain⟨p,q,i,j,rfl⟩:=h;exact⟨p,q,Below.trod g (hr t Bf).1 (hr t Bf).2 i f (fun x e=>hlt x (by simp[e])),Aab g f j (fun t k=>hr t (by simp[k])) (fun x e=>hlt x (by simp[e])),rfl⟩
 | [],[],_::_,_,h,_,_=>h.elim
 | [],_::_,_,_,h,_,_=>h.elim
 | _::_,[],_,_,h,_,_=>h.elim
 | _::_,_::_,[],_,h,_,_=>h.elim
theorem A0q {f:Func}{s:ChangeSpec}{W W':Ak}{args:Array Al}{a:List (DataW H)}{e:List MemPlace}{tb:TypeId} (m:laidOutB P=true)
  (b:DataW.Whole enc P f.params.toList s.vars Az W args.toList a [] e) (j:s.vars=[]) (o:∀ t∈f.params.toList,P.readableRec t=true∧t<P.types.size)
  (r:f.resultTypes=#[tb]) (u:P.underlying tb=some .bool) (c:s.fn H a={ results:=[.lit (.bool true)],args:=a }) (i:Below W.heap.size W W') :
  s.post enc P f Az true Az Az W args (.bool true) W':=by
 have n:∀ x∈e,x.block<W.heap.size:=fun x d=>b.lt x d;have l:=b;obtain⟨p,q,k,g,rfl,w,v⟩:=b;rw[j] at g;obtain⟨_,rfl⟩:=trodVars_none g;refine⟨a,[],_,[],p,[],l,?_,?_,?_,i.frame _,fun h=>by cases h⟩
 ·simp only[N2,c,r]
  exact trodAll_cons_mk (shut_bool u _) trodAll_mk0
 ·simp only[N2,c]
  exact Aab m i k o (fun x d=>n x (by simp[d]))
 ·rw[j];simp[N2,c,DataW.TrodVars]
section
variable {w : Ak} {base : Nat} {spare : Nat → Bool} {held : Bool}
def V8:List (Nat×Nat)→Nat→Nat→Bool
 | [],cur,total=>cur==total
 | (o,s)::r,cur,total=>o==cur&&V8 r (cur+s) total
def Dv (n:Int):Al:=.int .i64 n
def InR (n:Int):Prop:=-9223372036854775808≤n∧n≤9223372036854775807
end
end
end Go.Rd
end
section
namespace Go.Rd
open Go.RowKit
def Zh (P : Bz) : Nat → TypeId → Bool
 | 0, _ => Az
 | k + 1, t =>
  match P.underlying t with
  | some (.int .i64) => P.cellsOf t == 1
  | some (.struct a) => !P.stoodInHeld t && (a.toList.all fun f => f.name != "_" && Zh P k f.type) && V8 (a.toList.map fun f => (f.offset, P.cellsOf f.type)) 0 (P.cellsOf t)
  | _ => Az
theorem Akw {ns ms:List Int}{d:Nat} (g:ns.length=d) (i:ms.length=d):∀ {l:List (Nat×Nat)}{c:Nat},V8 l c d=true →
  (l.all fun p=>(ns.drop p.1).take p.2==(ms.drop p.1).take p.2)=(ns.drop c==ms.drop c)
 | [],c,h=>by
  simp[V8] at h;subst h;rw[List.drop_eq_nil_of_le Aa,List.drop_eq_nil_of_le Aa];rfl
 | (o,s)::r,c,h=>by
  simp only[V8,Fa,Dk] at h;obtain⟨rfl,h⟩:=h;rw[List.all_cons,Akw g i h]
  have e:ns.drop o=(ns.drop o).take s++ns.drop (o+s):=by rw[←Alj,Lu]
  have f:ms.drop o=(ms.drop o).take s++ms.drop (o+s):=by rw[←Alj,Lu]
  have j:((ns.drop o).take s).length=((ms.drop o).take s).length:=by simp[g,i]
  rw[Bool.eq_iff_iff];simp only[Fa,Dk];constructor
  ·rintro⟨a,b⟩;rw[e,f,a,b]
  ·intro a
   rw[e,f] at a;exact List.append_inj a j
section
variable {P : Bz}
theorem Akv {b:Nat}:∀ {l:List (Nat×Nat)}{a:Nat},V8 l a b=true→(∀ p∈l,p.1+p.2≤b)∧a≤b
 | [],a,h=>by simp[V8] at h;subst h;simp
 | (o,s)::r,a,h=>by
  simp only[V8,Fa,Dk] at h;obtain⟨rfl,h⟩:=h;obtain⟨c,d⟩:=Akv h;exact⟨fun p f=>(Gw.1 f).elim (fun e=>by subst e;exact d) (c p),Aa⟩
theorem Aai {ns:List Int}{o:Nat} (h:o<ns.length):(ns.drop o).take 1=[ns[o]]:=by
 rw[List.drop_eq_getElem_cons h];rfl
theorem Vl (w:Ak):∀ (k:Nat) (t:TypeId) (e:Nat) (ns ms:List Int),Zh P (k+1) t=true→(∃ d,P.underlying t=some (.struct d))→ns.length=P.cellsOf t→ms.length=P.cellsOf t →
  (T3 (e+k+1) t (.agg (ns.map Dv).toArray) (.agg (ms.map Dv).toArray)).run P w=.ok (ns==ms) w:=by
 intro k
 induction k with
 | zero =>
  intro t e ns ms h ⟨d,c⟩ q s;simp only[Zh,c,Fa,Ag0] at h
  have y:d.toList=[]:=by
   cases g:d.toList with
   | nil=>rfl
   | cons f r=>have:=h.1.2 f (by rw[g];simp);simp at this
  have u:=h.2;rw[y] at u;simp[V8] at u;have:ns=[]:=Z5.1 Aa;have:ms=[]:=Z5.1 Aa;subst ns;subst ms
  have i:P.fieldsOf t=d:=by simp[Program.fieldsOf,c]
  rw[run_equalIn_struct w (e+0) t _ _ (by rw[i];exact c) (by simpa using h.1.1),i,y];simp[Op.eqFields]
 | succ k L =>
  intro t e ns ms h ⟨d,c⟩ q s;rw[Zh,c] at h;simp only[Fa,Ag0] at h
  have i:P.fieldsOf t=d:=by simp[Program.fieldsOf,c]
  rw[run_equalIn_struct w (e+(k+1)) t _ _ (by rw[i];exact c) (by simpa using h.1.1),i];have o:=Akw q s h.2;rw[Ali,Ali] at o;rw[←o];have z:=(Akv h.2).1;have v:=h.1.2;clear o h i c;generalize d.toList=l at *
  induction l with
  | nil=>simp[Op.eqFields]
  | cons f l M =>
   have g:=v f Bf;have x:=z (f.offset,P.cellsOf f.type) Bf;simp only[] at x;simp only[Fa,T4,ne_eq] at g;have J:=M (fun p A=>z p (by simp at A ⊢;exact .inr A)) (fun f g=>v f (by simp[g]));simp only[Op.eqFields,Vv,List.all_cons];rw[Bj g.1];have n:=g.2
   have key:∃ a b,(part f.type (ns.map Dv).toArray f.offset).run P w=.ok a w∧(part f.type (ms.map Dv).toArray f.offset).run P w=.ok b w ∧
     (T3 (e+(k+1)) f.type a b).run P w=.ok ((ns.drop f.offset).take (P.cellsOf f.type)==(ms.drop f.offset).take (P.cellsOf f.type)) w:=by
    unfold Zh at n;split at n
    ·rename_i c
     have H:P.cellsOf f.type=1:=by simpa using n
     rw[H] at x ⊢;have B:f.offset<ns.length:=Aa;have C:f.offset<ms.length:=Aa
     have j:(isAgg f.type).run P w=.ok Az w:=by simp[isAgg,E5 c]
     refine⟨Dv ns[f.offset],Dv ms[f.offset],?_,?_,?_⟩
     ·simp[part,j,B]
     ·simp[part,j,C]
     ·rw[Aai B,Aai C]
      have:=run_equalIn_int (P:=P) w (e+k) f.type .i64 .i64 ns[f.offset] ms[f.offset] c;rw[show e+(k+1)=e+k+1 from Aa];unfold Dv;rw[this];simp
    ·rename_i E c
     have j:(isAgg f.type).run P w=.ok true w:=by simp[isAgg,E5 c]
     have K:∃ m,P.info? f.type=some m∧m.size=P.cellsOf f.type:=by
      unfold Program.underlying at c
      cases hi:P.info? f.type with
      | none=>simp[hi] at c
      | some m=>exact⟨m,rfl,by simp[Program.cellsOf,hi]⟩
     obtain⟨m,hi,hs⟩:=K
     have ext:∀ l:List Int,(l.map Dv).toArray.extract f.offset (f.offset+P.cellsOf f.type)=((((l.drop f.offset).take (P.cellsOf f.type))).map Dv).toArray:=by
      intro l;apply Array.ext';simp[List.extract_eq_take_drop,Agu,Alg]
     refine⟨.agg ((((ns.drop f.offset).take (P.cellsOf f.type))).map Dv).toArray,.agg ((((ms.drop f.offset).take (P.cellsOf f.type))).map Dv).toArray,?_,?_,?_⟩
     ·have:=ext ns
      simp[part,j,sizeOf,typeInfo,hi,hs,this]
     ·have:=ext ms
      simp[part,j,sizeOf,typeInfo,hi,hs,this]
     ·refine L f.type e _ _ g.2 ⟨E,c⟩ ?_ ?_
      ·simp;omega
      ·simp;omega
    ·cases n
   obtain⟨a,b,F,G,I⟩:=key;simp only[Uk,F,G,I,Um]
   cases N:(List.take (P.cellsOf f.type) (List.drop f.offset ns)==List.take (P.cellsOf f.type) (List.drop f.offset ms)) with
   | false=>simp
   | true=>simpa using J
section
variable {σ : Env} {C : Ak → Prop} {d : Option Tmp} {T U z : TypeId} {pos : String} {after : Array Edge} {gd : Option (Nat × Bool)} {x y : En} {g g' : Bool} {v : Al} {n : Nat}
 {K:Act→Ak→Prop}{Q:Exit→Act→Ak→Prop}{M:Nat→Prop}{w0:Ak}{H:List Res}
def EqT (P:Bz) (U:TypeId) (sz:Nat):Prop:=Zh P 5 U=true∧(∃ a,P.underlying U=some (.struct a))∧P.cellsOf U=sz∧P.eqGuardType P.depth U=Az
theorem Asb {w:Ak}{sz:Nat}{ns ms:List Int} (a:EqT P U sz) (b:ns.length=sz) (c:ms.length=sz):(binOp .eql U (.agg (ns.map Dv).toArray) (.agg (ms.map Dv).toArray)).run P w=.ok (.bool (ns==ms)) w:=by
 have:=Vl (P:=P) w 4 U 9995 ns ms a.1 a.2.1 (by rw[a.2.2.1];exact b) (by rw[a.2.2.1];exact c);simp only[binOp];simp[Op.equal,Op.maxDepth,this]
theorem Ap8 {w:Ak}{sz:Nat}{ns ms:List Int} (a:EqT P U sz) (b:ns.length=sz) (c:ms.length=sz):(binOp .neq U (.agg (ns.map Dv).toArray) (.agg (ms.map Dv).toArray)).run P w=.ok (.bool (!(ns==ms))) w:=by
 have:=Vl (P:=P) w 4 U 9995 ns ms a.1 a.2.1 (by rw[a.2.2.1];exact b) (by rw[a.2.2.1];exact c);simp only[binOp];simp[Op.equal,Op.maxDepth,this]
theorem To {sz:Nat}{ns ms:List Int} (b:EqT P U sz) (k:σ.ev x=some (g,.agg (ns.map Dv).toArray)) (h:g=true) (l:σ.ev y=some (g',.agg (ms.map Dv).toArray)) (i:g'=true)
  (e:ns.length=sz) (f:ms.length=sz):QV P ⟨d,.binOp .eql U x y z,T,pos,after,gd⟩ σ C (.bool (ns==ms)):=.of_run fun n a c w m=>by
 have j:=run_eqGuard_agg (P:=P) w .eql U x y (ns.map Dv).toArray (ms.map Dv).toArray b.2.2.2;have:=Asb (w:=w) b e f;simp only[execOp,c.ev k h,c.ev l i,Uk,j,this,Um,T6]
theorem Auz {sz:Nat}{ns ms:List Int} (b:EqT P U sz) (k:σ.ev x=some (g,.agg (ns.map Dv).toArray)) (h:g=true) (l:σ.ev y=some (g',.agg (ms.map Dv).toArray)) (i:g'=true)
  (e:ns.length=sz) (f:ms.length=sz):QV P ⟨d,.binOp .neq U x y z,T,pos,after,gd⟩ σ C (.bool (!(ns==ms))):=.of_run fun n a c w m=>by
 have j:=run_eqGuard_agg (P:=P) w .neq U x y (ns.map Dv).toArray (ms.map Dv).toArray b.2.2.2;have:=Ap8 (w:=w) b e f;simp only[execOp,c.ev k h,c.ev l i,Uk,j,this,Um,T6]
theorem QV.build {ps:List (Nat×En)}{vs cells:List Al} (h:EvAll σ (ps.map (·.2)) vs) (c:P.built U ((ps.map (·.1)).zip vs)=some cells.toArray) :
  QV P ⟨d,.build U ps.toArray,T,pos,after,gd⟩ σ C (.agg cells.toArray):=.of_run fun n a b w j=>by
 have f:=h.map b
 have e:(ps.toArray.map fun (i,x)=>(i,a.eval x)).toList=(ps.map (·.1)).zip vs:=by
  rw[←f];simp[List.zip_map',Function.comp_def]
 have:=run_build (P:=P) w U (ps.toArray.map fun (i,x)=>(i,a.eval x)) cells.toArray (by rw[e];exact c);rw[show (ps.toArray.map fun (p:Nat×En)=>match p with | (i,x)=>(i,a.eval x))=(List.map (fun x=>(x.fst,a.eval x.snd)) ps).toArray from Bf] at this;simp[execOp,this]
def Fp (b n c:Nat):Al:=.slice (some ⟨b,0,none⟩) n c
def Nx (P:Bz) (U E sz:Nat) (a:List Al):Prop:=P.underlying U=some (.slice E)∧(P.info? E).map (fun i=>(i.zero.map Ea,i.size))=some (some a.toArray,sz)
def Amf (sz len:Nat) (a:List Al) (b:List (Nat×Al)):Option (Array Al):=Aap (fun j=>some (j * sz,sz)) ((Array.range (len * sz)).map (a.toArray[· % a.toArray.size]!)) b
theorem EV.buildSlice {dd len E sz:Nat}{m:List Al}{ps:List (Nat×En)}{vs cells:List Al} (u:dd<n) (f:Nx P T E sz m) (L:len * sz≤16777216) (h:len * sz≠0) (F:EvAll σ (ps.map (·.2)) vs) (c:Amf sz len m ((ps.map (·.1)).zip vs)=some cells.toArray)
  (k:∀ b,WK n K ((dd,(true,Fp b len len))::σ) (Own M w0 (blk b cells E::H))):EV P n ⟨some dd,.buildSlice T len ps.toArray,U,pos,after,gd⟩ σ (Own M w0 H) K Q:=fun a w j G=>by
 refine .inl ?_;have t:=F.map j
 have e:(ps.toArray.map fun (i,x)=>(i,a.eval x)).toList=(ps.map (·.1)).zip vs:=by
  rw[←t];simp[List.zip_map',Function.comp_def]
 obtain⟨B,r⟩:=f;obtain⟨i,hi,l⟩:=K7.1 r;simp only[T8] at l;obtain⟨s,rfl⟩:=l;obtain⟨z,I,J⟩:=K7.1 s;unfold Amf at c;rw[←J] at c
 have A:(execOp a.eval ⟨some dd,.buildSlice T len ps.toArray,U,pos,after,gd⟩).run P w=.ok (.value (Fp w.heap.size len len)) (w.alloc (.cells cells.toArray E)):=by
  have e':(ps.toArray.map fun (p:Nat×En)=>(p.1,a.eval p.2)).toList=(ps.map (·.1)).zip vs:=e;have N:¬len * i.size>2 ^ 24:=Aa
  have q:¬(len=0∨i.size=0):=by rw[←Nat.mul_eq_zero];exact h
  simp only[execOp,Instr.buildSlice];simp[E5 B,sizeOf,typeInfo,zeroValue,hi,I,e',Fp,newRow,newObj,Jg,q,c]
  have o:List.map (fun x=>(x.fst,a.eval x.snd)) ps=(ps.map (·.1)).zip vs:=by rw[←e'];simp
  rw[Bg Aa,Bg h,o,c];simp[Jg]
 unfold Ii;rw[A];show K (a.put (some dd) _) _;refine k w.heap.size _ _ (j.put u true _) (G.push (w':=w.alloc (.cells cells.toArray E)) ?_ (blk w.heap.size cells E) ?_ ?_)
 ·exact Aqq _
 ·exact Adh w _
 ·intro b f
  subst f;simp
def Di:=@EV.buildSlice
theorem Jw {sz:Nat}:∀ {rows:List (List Al)}{i:Nat}{r:List Al},(∀ r∈rows,r.length=sz)→rows[i]?=some r→(rows.flatten.drop (i * sz)).take r.length=r
 | [],i,r,_,h=>by simp at h
 | q::rows,0,r,hs,h=>by simp at h;subst h;simp
 | q::rows,i+1,r,hs,h=>by
  have a:q.length=sz:=hs q Bf;have:=Jw (fun r b=>hs r (by simp[b])) (show rows[i]?=some r by simpa using h);rw[Z0,Xy,Nat.add_comm,←Alj,←a,List.drop_left,a];exact this
theorem SliceLen.blk {b n:Nat}:SliceLen (Fp b n n) n:=⟨_,_,rfl,fun _=>rfl,Co _⟩
theorem SliceLen.nil:SliceLen (.slice none 0 0) 0:=⟨_,_,rfl,Bf,Co _⟩
def Gq:=@SliceLen.nil
theorem B3:∀ u∈([]:List Al),u.oneCell'=true:=fun u h=>by cases h
theorem A0g {v:Al}{r:List Al} (h:v.oneCell'=true) (k:∀ u∈r,u.oneCell'=true):∀ u∈v::r,u.oneCell'=true:=fun u a=>by
 rcases Gw.1 a with rfl | a
 ·exact h
 ·exact k u a
theorem SliceLen.one {v:Al}{n:Nat} (h:SliceLen v n):v.oneCell'=true:=by
 obtain⟨a,c,rfl,_⟩:=h;rfl
def Cy:=@SliceLen.one
end
end
end Go.Rd
end
section
namespace Go.Rd
open Go.RowKit
def vec (v:Al) (E:TypeId) (sz:Nat) (rows:List (List Al)):Res where
 foot:=fun b=>∃ n c,v=.slice (some ⟨b,0,none⟩) n c
 holds:=fun w=>w.ownsRow 0 E sz v rows.length rows.flatten∧∀ r∈rows,r.length=sz
 stable:=fun w w' ⟨⟨e,f⟩,i⟩ l=>⟨⟨e,by
  rcases f with h | ⟨g,cap,d,a,j,k,r⟩
  ·exact .inl h
  ·exact .inr ⟨g,cap,d,a,j,(l g ⟨_,_,a⟩).trans k,r⟩⟩,i⟩
theorem Cj {v:Al}{E:TypeId}{sz:Nat}{rows:List (List Al)}{w:Ak} (h:(vec v E sz rows).holds w):Arr w v sz rows:=by
 obtain⟨⟨y,e⟩,f⟩:=h;rcases e with ⟨rfl,h⟩ | ⟨g,cap,u,rfl,_,m,o,_,z,t⟩
 ·obtain rfl:rows=[]:=Agg h
  exact Gr
 ·refine⟨⟨_,_,rfl,fun _=>rfl,o⟩,fun i r p s q=>?_⟩
  obtain⟨a,n,c,d,x,hi,rfl⟩:=q;simp only[Jh,Gs] at d;obtain⟨rfl,_,_⟩:=d;rw[I9];have l:=Jw f s
  have k:CellsAt w ⟨g,0,none⟩ rows.flatten 0:=An7 fun j v b=>by
   rw[Tf,Tg,Tf];rw[←t,Rp] at b;split at b
   ·simp[World.cell?,m];simpa using b
   ·cases b
  exact k.sub (i * sz) r.length l
def Xj (P:Bz) (U E:TypeId) (sz bytes:Nat):Prop:=P.underlying U=some (.slice E)∧((P.info? E).map fun i=>(i.zero.map (·.cells.size),i.size,i.bytes))=some (some sz,sz,bytes)∧0<sz
theorem Ff {v:Al}{E:TypeId}{sz:Nat}{rows:List (List Al)}{w:Ak} (h:(vec v E sz rows).holds w):∀ b,(vec v E sz rows).foot b→b<w.heap.size:=fun b d=>by
 obtain⟨n,c,rfl⟩:=d;rcases h.1.2 with ⟨h,_⟩ | ⟨g,cap,f,a,_,e,_⟩
 ·cases h
 ·simp only[Jh,Gs,Pj] at a
  obtain⟨⟨rfl,_⟩,_⟩:=a;exact(Rs.1 e).1
theorem Dm {sz:Nat}:∀ {rows:List (List Al)},(∀ r∈rows,r.length=sz)→rows.flatten.length=rows.length * sz
 | [],_=>Bf
 | r::rows,h=>by
  rw[Z0,Ca,Dm fun q a=>h q (by simp[a]),h r Bf,Ef,Xy,Nat.add_comm]
theorem Aiw {a:Addr}{n c sz i:Nat} (h:i<n):Lw (.slice (some a) n c) i sz (a.add (i * sz)):=⟨a,n,c,rfl,Aa,Aa,Bf⟩
theorem Arr.cell {w:Ak}{a:Addr}{n c sz:Nat}:∀ {rows:List (List Al)},Arr w (.slice (some a) n c) sz rows→(∀ r∈rows,r.length=sz)→∀ (j:Nat) u,rows.flatten[j]?=some u→w.cell? (a.add j)=some u:=fun {rows} h b j u g=>by
 have l:=Dm b
 have f:j<rows.length * sz:=by rw[←l];exact(Abw.1 g).1
 have o:0<sz:=by
  rcases Als sz with h | h
  ·subst h;simp at f
  ·exact h
 have d:j / sz<rows.length:=Aly (by rwa [Rc] at f)
 have p:rows.length=n:=by
  obtain⟨_,_,e,_⟩:=h.len;simp only[Jh] at e;exact e.2.1.symm
 have i:=h.row (j / sz) rows[j / sz] _ (E7 d) (Aiw Aa);have k:=Jw b (E7 d)
 have m:rows[j / sz][j % sz]?=some u:=by
  rw[←k,Rp,b _ (Vy d),Bj (Nat.mod_lt _ o),Ya,Rc,Agx];exact g
 have:=i.one _ m;rwa [Ng,Rc,Agx] at this
section
variable {P : Bz} {n : Nat} {σ : Env} {M : Nat → Prop} {w0 : Ak} {H : List Res} {d : Option Tmp} {T U E : TypeId} {pos : String} {after : Array Edge} {gd : Option (Nat × Bool)} {x y : En} {g g' : Bool} {v yv : Al}
 {K:Act→Ak→Prop}{Q:Exit→Act→Ak→Prop}
theorem Ta {w:Ak}{sz bytes:Nat}{rows c:List (List Al)} (a7:Xj P U E sz bytes) (m:(vec v E sz rows).holds w) (a0:Arr w yv sz c) (O:∀ r∈c,r.length=sz) (a6:∀ r∈c,∀ u∈r,u.oneCell'=true)
  (S:rows.length+c.length≤maxLen) (W:(rows.length+c.length) * bytes≤140737488355328) :
  ∃ q w',(T9 #[U,U] T #[v,yv]).run P w=.ok q w'∧(vec q E sz (rows++c)).holds w'∧w'.os=w.os∧w'.tape=w.tape∧(w'.output=w.output∧w.drawn≤w'.drawn)∧w.heap.size≤w'.heap.size ∧
   (∀ b,b<w.heap.size→¬(vec v E sz rows).foot b→w'.heap[b]?=w.heap[b]?)∧(∀ b,(vec q E sz (rows++c)).foot b→((vec v E sz rows).foot b∨w.heap.size≤b)∧b<w'.heap.size):=by
 obtain⟨s,hi,a2⟩:=a7;obtain⟨i,hi,a1⟩:=K7.1 hi;simp only[T8] at a1;obtain⟨G,L,X⟩:=a1;obtain⟨z,G,a3⟩:=K7.1 G;have K:∀ r∈rows++c,r.length=sz:=fun r f=>(F8.1 f).elim (m.2 r) (O r);have t:(rows++c).flatten=rows.flatten++c.flatten:=Aeo;have A:(rows++c).length=rows.length+c.length:=Ca
 have R:∀ u∈c.flatten,u.oneCell'=true:=fun u Q=>by
  obtain⟨r,f,Q⟩:=List.mem_flatten.1 Q;exact a6 r f u Q
 obtain⟨a5,B,rfl,a8,_⟩:=a0.len
 cases a5 with
 | none =>
  have b1:c=[]:=by
   cases c with
   | nil=>rfl
   | cons r l=>exact absurd (a8 Bf) Bf
  subst b1
  have b5:(T9 #[U,U] T #[v,.slice none ([]:List (List Al)).length B]).run P w=.ok v w:=by
   rcases m.1.2 with ⟨rfl,F⟩ | ⟨g,cap,p,rfl,_,_,Y,_⟩
   ·simp[T9,E5 s,sizeOf,typeInfo,hi,Builtin.lenOf,Builtin.firstCells]
   ·simp[T9,E5 s,sizeOf,typeInfo,hi,Builtin.lenOf,Builtin.firstCells,Y,storeCells]
  exact⟨v,w,b5,by simpa using m,rfl,rfl,⟨rfl,Co _⟩,Co _,fun _ _ _=>rfl,fun b V=>⟨.inl V,Ff m b V⟩⟩
 | some a =>
  have N:=a0.cell O;have F:=Dm O;rcases m.1.2 with ⟨rfl,b3⟩ | ⟨b,cap,p,rfl,b6,b0,Y,b7,b8,b9⟩
  ·obtain⟨q,w',f,o,e,_⟩:=run_append_own (P:=P) w w.heap.size U T E i z sz bytes s hi G L X a3 a2 (.slice none 0 0) rows.length rows.flatten ⟨Dm m.2,.inl ⟨rfl,b3⟩⟩ a c.length B c.flatten F N R S W (Co _)
   refine⟨q,w',f,⟨⟨by rw[t,A];exact o.1,?_⟩,K⟩,e.os,e.tape,⟨e.output,Va _ _ f⟩,e.size,fun k j _=>e.block k j (by simp[Value.ownBlock]),fun k j=>?_⟩
   ·rw[A,t]
    rcases o.2 with h | ⟨g,c2,p,h⟩
    ·exact .inl h
    ·exact .inr ⟨g,c2,p,h.1,Aaq _,h.2.2⟩
   ·obtain⟨a4,c2,rfl⟩:=j
    rcases o.2 with ⟨h,_⟩ | ⟨g,c3,p,h,I,J,_⟩
    ·cases h
    ·simp only[Jh,Gs,Pj] at h
     obtain⟨⟨rfl,_⟩,_⟩:=h;exact⟨.inr I,(Rs.1 J).1⟩
  ·by_cases b4:rows.length+c.length≤cap
   ·obtain⟨w',f,o,e⟩:=run_append_fits (P:=P) w 0 U T E i sz s hi L b rows.length cap rows.flatten m.1 a c.length B c.flatten F N R b4
    refine⟨_,w',f,⟨by rw[A,t];exact o,K⟩,e.os,e.tape,⟨e.output,Va _ _ f⟩,e.size,fun k j a9=>e.block k j (fun C=>?_),fun k j=>?_⟩
    ·cases C;exact a9 ⟨_,_,rfl⟩
    ·obtain⟨a4,c2,C⟩:=j
     simp only[Jh,Gs,Pj] at C;obtain⟨⟨rfl,_⟩,_⟩:=C;exact⟨.inl ⟨_,_,rfl⟩,Abu (Rs.1 b0).1 e.size⟩
   ·have b2:=(Cj m).cell m.2
    obtain⟨q,w',f,o,e⟩:=run_append_arg_grows (P:=P) w U T E i z sz bytes s hi G L X a3 a2 ⟨b,0,none⟩ rows.length cap rows.flatten (Dm m.2) b2 a c.length B c.flatten F N Aa S W;refine⟨q,w',f,⟨⟨by rw[t,A];exact o.1,?_⟩,K⟩,e.os,e.tape,⟨e.output,Va _ _ f⟩,e.size,fun k j _=>e.block k j Bf,fun k j=>?_⟩
    ·rw[A,t]
     rcases o.2 with h | ⟨g,c2,p,h⟩
     ·exact .inl h
     ·exact .inr ⟨g,c2,p,h.1,Aaq _,h.2.2⟩
    ·obtain⟨a4,c2,rfl⟩:=j
     rcases o.2 with ⟨h,_⟩ | ⟨g,c3,p,h,I,J,_⟩
     ·cases h
     ·simp only[Jh,Gs,Pj] at h
      obtain⟨⟨rfl,_⟩,_⟩:=h;exact⟨.inr I,(Rs.1 J).1⟩
theorem EV.append (k:Nat) {dd sz bytes:Nat}{rows b:List (List Al)} (F:dd<n) (z:Xj P U E sz bytes) (f:H[k]?=some (vec v E sz rows)) (N:σ.ev x=some (g,v)) (B:g=true) (O:σ.ev y=some (g',yv)) (C:g'=true)
  (G:∀ w,Own M w0 H w→Arr w yv sz b) (I:∀ r∈b,r.length=sz) (i:∀ r∈b,∀ u∈r,u.oneCell'=true) (q:rows.length+b.length≤maxLen) (A:(rows.length+b.length) * bytes≤140737488355328)
  (kk:∀ u,WK n K ((dd,(true,u))::σ) (Own M w0 (H.set k (vec u E sz (rows++b))))):EV P n ⟨some dd,.call ⟨.builtin .append,#[x,y],#[U,U]⟩,T,pos,after,gd⟩ σ (Own M w0 H) K Q:=fun a w c e=>by
 refine .inl ?_;obtain⟨h,w',J,j,l,m,o,p,s,t⟩:=Ta (T:=T) z (e.at k f) (G w e) I i q A
 have L:(execOp a.eval ⟨some dd,.call ⟨.builtin .append,#[x,y],#[U,U]⟩,T,pos,after,gd⟩).run P w=.ok (.value h) w':=by
  simp[execOp,resolve,invoke,builtin,c.ev N B,c.ev O C,J,Rk]
 unfold Ii;rw[L];exact kk h _ _ (c.put F true _) (e.upd k f l m o p s j t)
end
end Go.Rd
end
section
namespace Go.Rd
open Go.RowKit
def Le (k w:Ak):Prop:=∀ a v,k.cell? a=some v→w.cell? a=some v
theorem Le.refl (w:Ak):Le w w:=fun _ _ h=>h
def Ih:=@Le.refl
theorem Le.trans {a b c:Ak} (h:Le a b) (k:Le b c):Le a c:=fun x v d=>k x v (h x v d)
theorem Grow.le {w w':Ak} (h:Grow w w'):Le w w':=fun a u b=>by rw[h.cell (Adp w a b)];exact b
theorem Arr.le {w w':Ak}{v:Al}{sz:Nat}{rows:List (List Al)} (h:Arr w v sz rows) (k:Le w w'):Arr w' v sz rows:=h.mono k
def kn (M:Nat→Prop) (B:Nat) (k0 k:Ak):Res where
 foot:=fun b=>(M b∨B≤b)∧∃ (a:Addr) (v:Al),a.block=b∧k.cell? a=some v
 holds:=fun w=>Le k0 k∧(∀ (a:Addr) (v:Al),¬(M a.block∨B≤a.block)→k.cell? a=some v→k0.cell? a=some v)∧∀ (a:Addr) (v:Al),(M a.block∨B≤a.block)→k.cell? a=some v→w.cell? a=some v
 stable:=fun w w' ⟨e,f,g⟩ h=>⟨e,f,fun a v c d=>by
  rw[Adn (w:=w) (w':=w') (h a.block ⟨c,a,v,rfl,d⟩)]
  exact g a v c d⟩
def Base (M:Nat→Prop) (k w:Ak):Prop:=∀ a v,k.cell? a=some v→w.cell? a=some v∧¬M a.block
section
variable {M : Nat → Prop} {w0 k0 k w : Ak} {H : List Res}
theorem Own.le (j:Nat) (l:H[j]?=some (kn M w0.heap.size k0 k)) (g:Base M k0 w0) (h:Own M w0 H w):Le k w:=fun a v c=>by
 obtain⟨m,d,e⟩:=h.at j l;by_cases b:M a.block∨w0.heap.size≤a.block
 ·exact e a v b c
 ·obtain⟨i,f⟩:=g a v (d a v b c)
  rw[Adn (w:=w0) (w':=w) (h.1.block a.block Aa f)];exact i
theorem AllOwn.sub {B:Nat→Prop}:∀ {H' H:List Res},List.Sublist H' H→AllOwn B w H→AllOwn B w H'
 | _,_,.slnil,h=>h
 | _,_,.cons _ s,⟨_,h⟩=>AllOwn.sub s h
 | _,_,.cons_cons _ s,⟨⟨h1,h2,h3⟩,h4⟩=>⟨⟨h1,h2,fun t a=>h3 t (s.subset a)⟩,AllOwn.sub s h4⟩
theorem Own.sub {H':List Res} (s:List.Sublist H' H) (h:Own M w0 H w):Own M w0 H' w:=⟨h.1,h.2.sub s⟩
theorem AllOwn.perm {B:Nat→Prop}{H H':List Res} (p:List.Perm H H'):AllOwn B w H→AllOwn B w H':=by
 induction p with
 | nil=>exact id
 | cons r p q=>rintro⟨⟨e,f,d⟩,g⟩;exact⟨⟨e,f,fun s hs=>d s (p.mem_iff.2 hs)⟩,q g⟩
 | swap r s l =>
  rintro⟨⟨e,f,d⟩,⟨g,i,j⟩,m⟩;refine⟨⟨g,i,fun t c=>?_⟩,⟨e,f,fun t c=>d t (by simp[c])⟩,m⟩;rcases Gw.1 c with rfl | c
  ·exact fun b n o=>d _ Bf b o n
  ·exact j t c
 | trans _ _ a b=>exact fun h=>b (a h)
theorem Own.perm {H':List Res} (p:List.Perm H H') (h:Own M w0 H w):Own M w0 H' w:=⟨h.1,h.2.perm p⟩
theorem Ail:∀ {H:List Res}{j:Nat}{r:Res},H[j]?=some r→List.Perm H (r::H.eraseIdx j)
 | s::H,0,r,h=>by simp at h;subst h;exact List.Perm.refl _
 | s::H,j+1,r,h=>by
  have:=Ail (H:=H) (j:=j) (by simpa using h);exact(this.cons s).trans (List.Perm.swap ..)
theorem Own.front (j:Nat) {r:Res} (a:H[j]?=some r) (h:Own M w0 H w):Own M w0 (r::H.eraseIdx j) w:=by
 exact h.perm (Ail a)
theorem Av {R:List Res} (f:Base M k w0) (h:Own M w0 R w0):Own M w0 (kn M w0.heap.size k k::R) w0:=by
 have none:∀ b,¬(kn M w0.heap.size k k).foot b:=by
  rintro b ⟨c,a,v,rfl,e⟩;obtain⟨g,i⟩:=f a v e;rcases c with c | c
  ·exact i c
  ·have:=Adp w0 a g;omega
 refine⟨h.1,⟨⟨Ih _,fun _ _ _ h=>h,fun a v _ e=>(f a v e).1⟩,fun b d=>absurd d (none b),fun s hs b d=>absurd d (none b)⟩,h.2⟩
open Classical in
noncomputable def Ab3 (F:Nat→Prop) (k w:Ak):Ak :=
 { w with heap:=(Array.range (max k.heap.size w.heap.size)).map fun b=>if F b then (w.heap[b]?).getD (.cells #[] 0 (0,0)) else (k.heap[b]?).getD (.cells #[] 0 (0,0)) }
theorem Awo {F:Nat→Prop}{b:Nat} (c:F b) (d:b<w.heap.size):(Ab3 F k w).heap[b]?=w.heap[b]?:=by
 have a:b<max k.heap.size w.heap.size:=Aa;simp[Ab3,Alz,a,c,Adr d]
theorem Yq {F:Nat→Prop}{a:Addr} (d:¬F a.block):(Ab3 F k w).cell? a=k.cell? a:=by
 by_cases c:a.block<k.heap.size
 ·have b:a.block<max k.heap.size w.heap.size:=by omega
  refine Adn (w:=k) ?_;simp[Ab3,Alz,b,d,Adr c]
 ·have e:k.cell? a=none:=by
   simp[World.cell?,Aes (Aas c)]
  rw[e];by_cases b:a.block<max k.heap.size w.heap.size
  ·simp[Ab3,World.cell?,Alz,b,d,Aes (Aas c)]
  ·simp[Ab3,World.cell?,Alz,b]
theorem Own.freeze {R:List Res}{r:Res} (h:Own M w0 (kn M w0.heap.size k0 k::r::R) w) (e:Base M k0 w0):∃ k',Le k k'∧r.holds k'∧Own M w0 (kn M w0.heap.size k0 k'::R) w:=by
 obtain⟨u,⟨⟨n,o,p⟩,y,i⟩,⟨z,g,A⟩,q⟩:=h;have t:∀ b,r.foot b→¬(kn M w0.heap.size k0 k).foot b:=fun b e x=>i r Bf b x e;have m:∀ b,r.foot b→(Ab3 r.foot k w).heap[b]?=w.heap[b]?:=fun b e=>Awo e (g b e).2
 have j:Le k (Ab3 r.foot k w):=fun a v d=>by
  by_cases c:r.foot a.block
  ·exact absurd ⟨(g a.block c).1,a,v,rfl,d⟩ (t a.block c)
  ·rw[Yq c];exact d
 refine⟨Ab3 r.foot k w,j,r.stable w _ z m,u,⟨⟨n.trans j,fun a v l d=>?_,fun a v f d=>?_⟩,fun b e=>?_,fun s hs b e=>?_⟩,q⟩
 ·by_cases c:r.foot a.block
  ·exact absurd (g a.block c).1 l
  ·rw[Yq c] at d;exact o a v l d
 ·by_cases c:r.foot a.block
  ·rw[Adn (w:=w) (m a.block c)] at d;exact d
  ·rw[Yq c] at d;exact p a v f d
 ·obtain⟨f,a,v,rfl,d⟩:=e
  by_cases c:r.foot a.block
  ·exact⟨(g _ c).1,(g _ c).2⟩
  ·rw[Yq c] at d;exact y a.block ⟨f,a,v,rfl,d⟩
 ·obtain⟨f,a,v,rfl,d⟩:=e
  by_cases c:r.foot a.block
  ·exact A s hs _ c
  ·rw[Yq c] at d
   exact i s (Z3 _ hs) a.block ⟨f,a,v,rfl,d⟩
theorem AllOwn.append {B:Nat→Prop}{w:Ak}:∀ {A C:List Res},AllOwn B w (A++C)↔(AllOwn B w A∧AllOwn B w C∧∀ r∈A,∀ s∈C,∀ b,r.foot b→¬s.foot b)
 | [],C=>by simp[AllOwn]
 | r::A,C=>by
  simp only[Vz,AllOwn,AllOwn.append (A:=A) (C:=C),F8,Gw];constructor
  ·rintro⟨⟨e,f,c⟩,g,h,d⟩
   exact⟨⟨⟨e,f,fun s hs=>c s (.inl hs)⟩,g⟩,h,fun q a s hs=>by
    rcases a with rfl | a
    ·exact c s (.inr hs)
    ·exact d q a s hs⟩
  ·rintro⟨⟨⟨e,f,c⟩,g⟩,h,d⟩
   exact⟨⟨e,f,fun s hs=>hs.elim (c s) (d r (.inl rfl) s)⟩,g,h,fun q a=>d q (.inr a)⟩
def Atd:=@AllOwn.append
theorem AllOwn.mine {B B':Nat→Prop}{w:Ak}:∀ {R:List Res},AllOwn B w R→(∀ r∈R,∀ b,r.foot b→B' b)→AllOwn B' w R
 | [],_,_=>trivial
 | r::R,⟨⟨h1,h2,h3⟩,h4⟩,h=>⟨⟨h1,fun b a=>⟨h r Bf b a,(h2 b a).2⟩,h3⟩,h4.mine fun s hs=>h s (Z3 _ hs)⟩
def Ac8 (R:List Res):Nat→Prop:=fun b=>∃ r∈R,r.foot b
theorem Own.lend {R i:List Res} (h:Own M w0 (kn M w0.heap.size k0 k::(R++i)) w) (d:Base M k0 w0):Base (Ac8 R) k w∧Own (Ac8 R) w R w:=by
 have m:=Own.le 0 rfl d h;obtain⟨s,⟨⟨n,o,p⟩,t,l⟩,j⟩:=h;obtain⟨e,q,u⟩:=Atd.1 j;refine⟨fun a v g=>⟨m a v g,?_⟩,Frame.refl _,e.mine fun r c b d=>.inl ⟨r,c,d⟩⟩;rintro⟨r,c,f⟩;exact l r (by simp[c]) a.block ⟨(e.lt r c _ f).1,a,v,rfl,g⟩ f
theorem Own.back {R R' o:List Res}{k' w':Ak} (h:Own M w0 (kn M w0.heap.size k0 k::(R++o)) w) (g:Base M k0 w0) (F:Own (Ac8 R) w (kn (Ac8 R) w.heap.size k k'::R') w') :
  Own M w0 (kn M w0.heap.size k0 k'::(R'++o)) w'∧Le k k':=by
 have N:=Own.le 0 rfl g h;obtain⟨y,⟨⟨G,I,S⟩,T,L⟩,K⟩:=h;obtain⟨J,x,P⟩:=Atd.1 K;obtain⟨i,⟨⟨g1,p,g3⟩,E,C⟩,m⟩:=F;have z:∀ b,Ac8 R b→A10 M w0 b:=fun b ⟨r,j,l⟩=>(J.lt r j b l).1;have A:∀ b,A10 (Ac8 R) w b→A10 M w0 b:=fun b f=>f.elim (z b) fun h=>.inr (Nl y.size h);have t:∀ b,b<w.heap.size→¬Ac8 R b→w'.heap[b]?=w.heap[b]?:=i.block;have n:∀ s∈o,∀ b,s.foot b→b<w.heap.size∧¬Ac8 R b:=fun s hs b d=>⟨(x.lt s hs b d).2,fun ⟨r,j,l⟩=>P r j s hs b l d⟩;refine⟨⟨y.trans ⟨i.os,i.tape,i.output,i.size,fun b g f=>t b g fun q=>f (z b q)⟩,⟨⟨G.trans g1,fun a v B e=>?_,fun a v f e=>?_⟩,fun b g=>?_,fun s hs b g=>?_⟩,Atd.2 ⟨m.mine fun r j b l=>A b (m.lt r j b l).1,?_,fun r j s hs b l d=>?_⟩⟩,g1⟩
 ·have O:¬(Ac8 R a.block∨w.heap.size≤a.block):=fun h=>B (A a.block h)
  exact I a v B (p a v O e)
 ·by_cases c:Ac8 R a.block∨w.heap.size≤a.block
  ·exact g3 a v c e
  ·have:=N a v (p a v c e)
   rw[Adn (w:=w) (t a.block Aa fun q=>c (.inl q))];exact this
 ·obtain⟨f,a,v,rfl,e⟩:=g
  refine⟨f,?_⟩;by_cases c:Ac8 R a.block∨w.heap.size≤a.block
  ·exact(E a.block ⟨c,a,v,rfl,e⟩).2
  ·have:=i.size;omega
 ·obtain⟨f,a,v,rfl,e⟩:=g
  by_cases c:Ac8 R a.block∨w.heap.size≤a.block
  ·rcases F8.1 hs with hs | hs
   ·exact C s hs a.block ⟨c,a,v,rfl,e⟩
   ·intro d
    obtain⟨Q,u⟩:=n s hs a.block d;rcases c with c | c
    ·exact u c
    ·omega
  ·rcases F8.1 hs with hs | hs
   ·intro d
    exact c (m.lt s hs a.block d).1
   ·exact L s (by simp[hs]) a.block ⟨f,a,v,rfl,p a v c e⟩
 ·exact x.change i.size fun s hs b d=>t b (n s hs b d).1 (n s hs b d).2
 ·obtain⟨Q,u⟩:=n s hs b d
  rcases (m.lt r j b l).1 with c | c
  ·exact u c
  ·omega
end
section
variable {P : Bz} {n : Nat} {σ : Env} {M : Nat → Prop} {w0 k0 k : Ak} {H : List Res} {d : Option Tmp} {T U E : TypeId} {pos : String} {after : Array Edge} {gd : Option (Nat × Bool)} {x y : En} {g g' : Bool} {v yv : Al}
 {K:Act→Ak→Prop}{Q:Exit→Act→Ak→Prop}
theorem Zr {C C':Ak→Prop} (h:∀ w,C w→C' w) (kk:WK n K σ C'):WK n K σ C:=fun a w b c=>kk a w b (h w c)
theorem WK.front (j:Nat) {r:Res} (a:H[j]?=some r) (kk:WK n K σ (Own M w0 (r::H.eraseIdx j))):WK n K σ (Own M w0 H):=Zr (fun w b=>b.front j a) kk
theorem WK.freeze {r:Res} (h:Base M k0 w0) (kk:∀ k',Le k k'→r.holds k'→WK n K σ (Own M w0 (kn M w0.heap.size k0 k'::H))):WK n K σ (Own M w0 (kn M w0.heap.size k0 k::r::H)):=fun a w f i=>by
 obtain⟨k',b,c,e⟩:=i.freeze h;exact kk k' b c a w f e
def Gk:=@WK.freeze
theorem Ah8 {X:Type}{R h:List Res}{f:FuncId}{xs:List En}{vs:List Al}{i:Array TypeId} (G:X→Al) (R':X→List Res) (c:X→Ak) (F:X→Prop) (j:Base M k0 w0) (r:∀ dd,d=some dd→dd<n) (p:Enters P f) (z:EvAll σ xs vs)
  (o:∀ M' w,Base M' k w→Own M' w R w→Calls P f vs.toArray w (fun e w'=>∃ X,e=.returned (G X)∧Own M' w (kn M' w.heap.size k (c X)::R' X) w'∧F X))
  (kk:∀ X,F X→Le k (c X)→WK n K ((match d with | some dd=>[(dd,(true,G X))] | none=>[])++σ) (Own M w0 (kn M w0.heap.size k0 (c X)::(R' X++h)))) :
  EV P n ⟨d,.call ⟨.value (.func f),xs.toArray,i⟩,T,pos,after,gd⟩ σ (Own M w0 (kn M w0.heap.size k0 k::(R++h))) K Q:=fun a w b l=>by
 refine .inl ?_;have q:=z.map b
 have t:(execOp a.eval ⟨d,.call ⟨.value (.func f),xs.toArray,i⟩,T,pos,after,gd⟩).run P w=.ok (.enter f vs.toArray) w:=by
  simp[execOp,resolve,Adg,Act.eval,invoke,Pw p,q]
 unfold Ii;rw[t];obtain⟨A,B⟩:=l.lend j;refine(o _ w A B).mono ?_;rintro e C ⟨u,rfl,s,m⟩;obtain⟨b1,b2⟩:=l.back j s;refine kk u m b2 _ _ ?_ b1
 cases d with
 | none=>exact b
 | some dd=>exact b.put (r dd rfl) true _
theorem Axi {X:Type}{R h:List Res}{f:FuncId}{xs:List En}{vs cs:List Al}{i:Array TypeId} (G:X→Al) (R':X→List Res) (c:X→Ak) (F:X→Prop) (j:Base M k0 w0) (s:∀ dd,d=some dd→dd<n) (p:Enters P f) (B:σ.ev x=some (g,.func (.func f) #[] cs.toArray)) (q:g=true) (A:EvAll σ xs vs)
  (o:∀ M' w,Base M' k w→Own M' w R w→Calls P f (vs++cs).toArray w (fun e w'=>∃ X,e=.returned (G X)∧Own M' w (kn M' w.heap.size k (c X)::R' X) w'∧F X))
  (kk:∀ X,F X→Le k (c X)→WK n K ((match d with | some dd=>[(dd,(true,G X))] | none=>[])++σ) (Own M w0 (kn M w0.heap.size k0 (c X)::(R' X++h)))) :
  EV P n ⟨d,.call ⟨.value x,xs.toArray,i⟩,T,pos,after,gd⟩ σ (Own M w0 (kn M w0.heap.size k0 k::(R++h))) K Q:=fun a w b l=>by
 refine .inl ?_;have r:=A.map b
 have z:(execOp a.eval ⟨d,.call ⟨.value x,xs.toArray,i⟩,T,pos,after,gd⟩).run P w=.ok (.enter f (vs++cs).toArray) w:=by
  simp[execOp,resolve,Adg,b.ev B q,invoke,Pw p,r]
 unfold Ii;rw[z];obtain⟨C,I⟩:=l.lend j;refine(o _ w C I).mono ?_;rintro e J ⟨u,rfl,t,m⟩;obtain⟨b1,b2⟩:=l.back j t;refine kk u m b2 _ _ ?_ b1
 cases d with
 | none=>exact b
 | some dd=>exact b.put (s dd rfl) true _
theorem QV.makeFunc {C:Ak→Prop}{f:FuncId}{xs:List En}{vs:List Al} (e:EvAll σ xs vs):QV P ⟨d,.makeFunc (.func f) #[] xs.toArray,T,pos,after,gd⟩ σ C (.func (.func f) #[] vs.toArray):=.of_run fun n a b w h=>by
 have c:=e.map b;simp[execOp,Instr.makeFunc,c]
theorem C8 {M:Nat→Prop}{w0 k0 k k' w:Ak}{H:List Res} (f:Le k k') (l:Le k0 k) (h:Own M w0 (kn M w0.heap.size k0 k'::H) w):Own M w0 (kn M w0.heap.size k0 k::H) w:=by
 obtain⟨t,⟨⟨A,m,o⟩,p,q⟩,z⟩:=h;have j:∀ b,(kn M w0.heap.size k0 k).foot b→(kn M w0.heap.size k0 k').foot b:=fun b ⟨i,a,v,r,c⟩=>⟨i,a,v,r,f a v c⟩;exact⟨t,⟨⟨l,fun a v u c=>m a v u (f a v c),fun a v i c=>o a v i (f a v c)⟩,fun b e=>p b (j b e),fun s hs b e=>q s hs b (j b e)⟩,z⟩
def Agk (a:List Nat) (H:List Res):List Res:=a.filterMap (H[·]?)
theorem AllOwn.apart {B:Nat→Prop}{w:Ak}:∀ {H:List Res}{i j:Nat}{r s:Res},AllOwn B w H→H[i]?=some r→H[j]?=some s→i≠j→∀ b,r.foot b→¬s.foot b
 | [],_,_,_,_,_,h,_,_=>by simp at h
 | q::H,0,0,_,_,_,_,_,h=>absurd rfl h
 | q::H,0,j+1,r,s,⟨⟨_,_,h3⟩,_⟩,hi,hj,_=>by
  simp at hi;subst hi;exact h3 s (Xs (by simpa using hj))
 | q::H,i+1,0,r,s,⟨⟨_,_,h3⟩,_⟩,hi,hj,_=>by
  simp at hj;subst hj;exact fun b a hs=>h3 r (Xs (by simpa using hi)) b hs a
 | q::H,i+1,j+1,r,s,⟨_,h4⟩,hi,hj,hne=>h4.apart (by simpa using hi) (by simpa using hj) Aa
theorem AllOwn.all {B:Nat→Prop}{w:Ak}:∀ {H:List Res}{r:Res},AllOwn B w H→r∈H→r.holds w∧∀ b,r.foot b→B b∧b<w.heap.size
 | q::H,r,⟨⟨h1,h2,_⟩,h4⟩,a=>by
  rcases Gw.1 a with rfl | a
  ·exact⟨h1,h2⟩
  ·exact h4.all a
theorem AllOwn.pick {B:Nat→Prop}{w:Ak}{H:List Res} (h:AllOwn B w H):∀ (a:List Nat),a.Nodup→AllOwn B w (Agk a H)
 | [],_=>trivial
 | j::a,hn=>by
  have c:=h.pick a (Alo.1 hn).2;unfold Agk at *;rw[List.filterMap_cons];split
  ·exact c
  ·rename_i r b
   refine⟨⟨(h.all (Xs b)).1,(h.all (Xs b)).2,fun s hs=>?_⟩,c⟩;obtain⟨i,hi,f⟩:=List.mem_filterMap.1 hs;exact h.apart b f (fun e=>(Alo.1 hn).1 (e▸hi))
theorem Own.pick (a:List Nat) (b:a.Nodup) {w:Ak} (h:Own M w0 H w):Own M w0 (Agk a H) w:=⟨h.1,h.2.pick a b⟩
theorem WK.pick (a:List Nat) (b:a.Nodup) (kk:WK n K σ (Own M w0 (Agk a H))):WK n K σ (Own M w0 H):=Zr (fun w c=>c.pick a b) kk
theorem Bb (j:Nat) {b sz:Nat}{cells:List Al}{rows:List (List Al)} (f:H[j]?=some (blk b cells E)) (e:rows.flatten=cells) (hs:∀ r∈rows,r.length=sz) :
  ∀ w,Own M w0 H w→Arr w (Fp b rows.length rows.length) sz rows:=fun w m =>
 ⟨⟨_,_,rfl,fun _=>rfl,Co _⟩,fun i r p l h=>by
  obtain⟨a,n,o,c,q,s,rfl⟩:=h;simp only[Fp,Jh,Gs] at c;obtain⟨rfl,rfl,rfl⟩:=c;rw[I9]
  exact(Ac j f w m).sub (i * sz) r.length (by rw[←e];exact Jw hs l)⟩
theorem Cz (j:Nat) {sz:Nat}{rows:List (List Al)} (a:H[j]?=some (vec v E sz rows)):∀ w,Own M w0 H w→Arr w v sz rows:=fun w b=>Cj (b.at j a)
theorem Bt {α:Type}{enc:α→List Al}{xs ys:List α} (b:List α) (k:Nat) {dd sz bytes:Nat} (z:dd<n) (m:Xj P U E sz bytes) (l:H[k]?=some (vec v E sz (xs.map enc))) (F:σ.ev x=some (g,v)) (p:g=true) (G:σ.ev y=some (g',yv)) (q:g'=true)
  (A:∀ w,Own M w0 H w→Arr w yv sz (ys.map enc)) (s:∀ u,(enc u).length=sz) (B:∀ u∈ys,∀ c∈enc u,c.oneCell'=true) (I:b=xs++ys) (i:b.length≤maxLen) (j:b.length * bytes≤140737488355328)
  (kk:∀ u,SliceLen u b.length→WK n K ((dd,(true,u))::σ) (Own M w0 (H.set k (vec u E sz (b.map enc))))):EV P n ⟨some dd,.call ⟨.builtin .append,#[x,y],#[U,U]⟩,T,pos,after,gd⟩ σ (Own M w0 H) K Q:=by
 subst I;rw[Ca] at i j;refine EV.append k z m l F p G q A ?_ ?_ (by simpa using i) (by simpa using j) fun u a w o h=>?_
 ·intro r f
  obtain⟨u,_,rfl⟩:=I7.1 f;exact s u
 ·intro r f
  obtain⟨u,C,rfl⟩:=I7.1 f;exact B u C
 ·have t:k<H.length:=(Abw.1 l).1
  have e:=(Cj (v:=u) (E:=E) (sz:=sz) (rows:=xs.map enc++ys.map enc) (h.at k (by simp[t]))).len;rw[←Q0] at e h;rw[Gl] at e;exact kk u e a w o h
theorem Afq {w:Ak}{sz:Nat}{α:Type}{enc:α→List Al}:(vec (.slice none 0 0) E sz (([]:List α).map enc)).holds w:=⟨⟨Bf,.inl ⟨rfl,rfl⟩⟩,Bf⟩
theorem Own.vecNil {w:Ak} (h:Own M w0 H w) {E:TypeId}{sz:Nat}{α:Type}{enc:α→List Al}:Own M w0 (vec (.slice none 0 0) E sz (([]:List α).map enc)::H) w :=
 ⟨h.1,⟨Afq,fun b ⟨_,_,h⟩=>by simp at h,fun s _ b ⟨_,_,h⟩=>by simp at h⟩,h.2⟩
theorem WK.vecNil (E:TypeId) (sz:Nat) {α:Type} (enc:α→List Al) (kk:WK n K σ (Own M w0 (vec (.slice none 0 0) E sz (([]:List α).map enc)::H))):WK n K σ (Own M w0 H):=Zr (fun w a=>a.vecNil) kk
theorem A2 (j:Nat) (b:H[j]?=some (kn M w0.heap.size k0 k)) (a:Base M k0 w0) {p:Addr}{l:List Al} (h:CellsAt k p l 0):∀ w,Own M w0 H w→CellsAt w p l 0:=fun w c=>h.mono (Own.le j b a c)
theorem Ai (j:Nat) (b:H[j]?=some (kn M w0.heap.size k0 k)) (a:Base M k0 w0) {v:Al}{sz:Nat}{rows:List (List Al)} (h:Arr k v sz rows):∀ w,Own M w0 H w→Arr w v sz rows:=fun w c=>h.le (Own.le j b a c)
theorem Axc {w:Ak} (a:∀ b,¬M b) (h:Own M w0 H w):Grow w0 w:=⟨h.1.os,h.1.tape,h.1.output,h.1.size,fun b c=>h.1.block b c (a b)⟩
theorem Wd {v z:Al}{m:Nat} (h:SliceLen v m):Amf 1 1 [z] [(0,v)]=some [v].toArray:=by
 obtain⟨a,c,rfl,_⟩:=h;simp[Amf,Aap,Ea];have e:(Array.range 1:Array Nat)=#[0]:=Ah;rw[e];apply Array.ext' ;simp
theorem Adz {C:Ak→Prop}{o:Oper}{v a:Al} (h:v=a) (q:QV P o σ C v):QV P o σ C a:=h▸q
theorem SliceLen.cells {v:Al}{m:Nat} (h:SliceLen v m):v.cells=[v].toArray:=by
 obtain⟨a,c,rfl,_⟩:=h;rfl
def Hr:=@SliceLen.cells
def Ahg:Al→Bool
 | .slice none _ _=>true
 | _=>Az
theorem Asa {w:Ak} (e:Nat) {a:Option Addr}{l c:Nat} (h:P.underlying U=some (.slice E)):(T3 (e+1) U (.slice a l c) (.slice none 0 0)).run P w=.ok a.isNone w:=by
 cases a <;> simp[T3,E5 h]
theorem Akl {a:Option Addr}{l c:Nat}:Ahg (.slice a l c)=a.isNone:=by cases a <;> rfl
theorem Axa {C:Ak→Prop}{z:TypeId}{m:Nat} (j:P.underlying U=some (.slice E)) (q:σ.ev x=some (g,v)) (o:g=true) (p:SliceLen v m) :
  QV P ⟨d,.binOp .eql U x (.const (.slice none 0 0)) z,T,pos,after,gd⟩ σ C (.bool (Ahg v)):=.of_run fun n a l w r=>by
 obtain⟨b,c,rfl,_⟩:=p;have e:=l.ev q o;have f:a.eval (.const (.slice none 0 0))=.slice none 0 0:=rfl
 have h:(eqGuard .eql U x (.const (.slice none 0 0)) (.slice b m c) (.slice none 0 0)).run P w=.ok () w:=by simp[eqGuard]
 have i:(binOp .eql U (.slice b m c) (.slice none 0 0)).run P w=.ok (.bool b.isNone) w:=by
  simp only[binOp];simp[Op.equal,Op.maxDepth,Asa (P:=P) (w:=w) 9999 j]
 simp only[execOp,e,f,Uk,h,i,Um,T6,Akl]
theorem Ass {m:Nat} (h:SliceLen v m) (e:Ahg v=true):m=0:=by
 obtain⟨a,c,rfl,h,_⟩:=h;rw[Akl] at e
 cases a with
 | none =>
  rcases Als m with b | b
  ·exact b
  ·exact absurd (h b) Bf
 | some a=>simp at e
theorem Ai1 {dd sz:Nat}{o:List Al} (h:dd<n) (c:Nx P T E sz o) (k:∀ b,WK n K ((dd,(true,Fp b 0 0))::σ) (Own M w0 (blk b [] E::H))):EV P n ⟨some dd,.buildSlice T 0 #[],U,pos,after,gd⟩ σ (Own M w0 H) K Q:=fun a w e m=>by
 refine .inl ?_;obtain⟨l,f⟩:=c;obtain⟨i,hi,p⟩:=K7.1 f
 have j:(execOp a.eval ⟨some dd,.buildSlice T 0 #[],U,pos,after,gd⟩).run P w=.ok (.value (Fp w.heap.size 0 0)) (w.alloc (.cells #[] E)):=by
  simp[execOp,Instr.buildSlice,E5 l,sizeOf,typeInfo,hi,Fp,newRow,newObj,Jg,Aap];congr 2;apply Array.ext' ;simp
 unfold Ii;rw[j];show K (a.put (some dd) _) _;refine k w.heap.size _ _ (e.put h true _) (m.push (w':=w.alloc (.cells #[] E)) ?_ (blk w.heap.size [] E) ?_ ?_)
 ·exact Aqq _
 ·exact Adh w _
 ·intro b c
  subst c;simp
theorem Own.blkVec {w:Ak}{b sz:Nat}{cells:List Al}{α:Type} (enc:α→List Al) (xs:List α) (h:Own M w0 (blk b cells E::H) w) (i:(xs.map enc).flatten=cells) (hs:∀ u,(enc u).length=sz) (t:xs.length≤maxLen) :
  Own M w0 (vec (Fp b xs.length xs.length) E sz (xs.map enc)::H) w:=by
 have j:∀ r∈xs.map enc,r.length=sz:=fun r z=>by
  obtain⟨u,_,rfl⟩:=I7.1 z;exact hs u
 have a:=Dm j;rw[Gl] at a;obtain⟨l,⟨⟨m,o,p⟩,q⟩⟩:=h
 have foot:∀ x,(vec (Fp b xs.length xs.length) E sz (xs.map enc)).foot x→x=b:=fun x ⟨n,c,f⟩=>by
  simp only[Fp,Jh,Gs,Pj] at f;exact f.1.1.symm
 refine⟨l,⟨⟨⟨by rw[Gl];exact a,.inr ⟨b,xs.length,cells.toArray,by simp[Fp],Aaq _,m,Bf,t,by simp[←i,a],?_⟩⟩,j⟩,fun x e=>o x (foot x e),fun s hs x e=>p s hs x (foot x e)⟩,q⟩;rw[Gl,←a,i];simp
theorem WK.blkVec {b sz:Nat}{cells:List Al}{α:Type} (enc:α→List Al) (xs:List α) (a:(xs.map enc).flatten=cells) (hs:∀ u,(enc u).length=sz) (c:xs.length≤maxLen)
  (kk:WK n K σ (Own M w0 (vec (Fp b xs.length xs.length) E sz (xs.map enc)::H))):WK n K σ (Own M w0 (blk b cells E::H)):=Zr (fun w e=>e.blkVec enc xs a hs c) kk
theorem Bq {α:Type}{enc:α→List Al}{sz:Nat}{ys:List α} (h:∀ u,(enc u).length=sz):∀ r∈ys.map enc,r.length=sz:=fun r a=>by
 obtain⟨u,_,rfl⟩:=I7.1 a;exact h u
end
end Go.Rd
end
section
namespace Go.Rd
open Go.RowKit
section
variable {P : Bz} {n : Nat} {σ : Env} {C : Ak → Prop} {ty : TypeId} {p u : Nat} {q : Addr} {sz : Nat} {cs : List Al} {x : Al}
theorem J1 {w:Ak} (a:Sg P ty sz) (e:cs.length=sz) (d:CellsAt w q cs 0):(loadVar ty q).run P w=.ok (.agg cs.toArray) w:=by
 have c:=Aaf a w;obtain⟨dd,f,g,b⟩:=a;obtain⟨h,hi,hs⟩:=K7.1 b;have:=Pz (P:=P) cs 0 #[] d;rw[e] at this;simp[loadVar,c,sizeOf,typeInfo,hi,hs,loadCells,this]
theorem Wr {fn:Func}{R:Ending→Ak→Prop} (k:fn.results=#[.cell p ty]) (d:Sg P ty sz) (f:cs.length=sz) (g:σ.look p=some (true,.pointer (some q))) (e:∀ w,C w→CellsAt w q cs 0)
  (h:∀ w,C w→R (.returned (.agg cs.toArray)) w):WK n (bodyPost P fn R .ret) σ C:=fun a w b c=>by
 refine⟨b.defers,_,?_,h w c⟩;have i:=b.look p true _ g
 have j:a.tmps[p]?.getD undef=.pointer (some q):=by simpa using i
 have:=J1 (P:=P) d f (e w c);simp[results,k,j,asAddr,this]
theorem Dq {fn:Func}{R:Ending→Ak→Prop} (k:fn.results=#[.cell p ty,.tmp u]) (d:Sg P ty sz) (f:cs.length=sz) (g:σ.look p=some (true,.pointer (some q))) (l:σ.look u=some (true,x)) (e:∀ w,C w→CellsAt w q cs 0)
  (h:∀ w,C w→R (.returned (.tuple #[.agg cs.toArray,x])) w):WK n (bodyPost P fn R .ret) σ C:=fun a w b c=>by
 refine⟨b.defers,_,?_,h w c⟩;have i:=b.look p true _ g;have m:=b.look u true _ l;have j:a.tmps.getD p undef=.pointer (some q):=i;have:=J1 (P:=P) d f (e w c);rw[results_cell_tmp k,j,m];simp[asAddr,this,Rk]
end
section
variable {P : Bz} {n : Nat} {σ : Env} {M : Nat → Prop} {w0 : Ak} {H : List Res} {T U E : TypeId} {pos : String} {after : Array Edge} {gd : Option (Nat × Bool)} {x y : En} {g g' : Bool} {v : Al}
 {K:Act→Ak→Prop}{Q:Exit→Act→Ak→Prop}{α:Type}{c:α→Al}{xs:List α}{b:Nat}
theorem A3u (b i:Nat):((⟨b,0,none⟩:Addr).add (i * 1))=⟨b,i,none⟩:=by
 rw[Tg];simp
end
def Np (v:Al) (sz l h:Nat):Al :=
 match v with
 | .slice a _ c=>.slice (if c=l then a else a.map (·.add (l * sz))) (h - l) (c - l)
 | v=>v
theorem Aoz {v:Al}{n l h sz:Nat} (e:SliceLen v n) (f:l≤h) (g:h≤n):SliceLen (Np v sz l h) (h - l):=by
 obtain⟨a,c,rfl,d,i⟩:=e;refine⟨_,_,rfl,fun j=>?_,Aa⟩;have:=d Aa;obtain⟨b,rfl⟩:=Aha.1 this;split <;> simp
theorem Azt {w:Ak}{v:Al}{l h sz:Nat}{rows:List (List Al)} (e:Arr w v sz rows) (g:l≤h) (j:h≤rows.length):Arr w (Np v sz l h) sz ((rows.drop l).take (h - l)):=by
 have m:((rows.drop l).take (h - l)).length=h - l:=by simp;omega
 refine⟨by rw[m];exact Aoz e.len g j,fun i r p d o=>?_⟩
 have hi:i<h - l:=by have:=(Abw.1 d).1;omega
 obtain⟨a,c,rfl,k,u⟩:=e.len;obtain⟨b,rfl⟩:=Aha.1 (k Aa);obtain⟨q,x,s,f,g1,t,rfl⟩:=o;have n:¬c=l:=Aa;simp only[Np,Bg n,Aln,Jh,Gs] at f;obtain⟨rfl,_,_⟩:=f;rw[Ng,I9,←Ra];refine e.row (l+i) r _ ?_ (Aiw Aa);rw[Rp,Bj hi,Ya] at d;exact d
theorem Azs {α:Type}{enc:α→List Al}{w:Ak}{v:Al}{l h sz:Nat}{xs:List α} (c:Arr w v sz (xs.map enc)) (a:l≤h) (b:h≤xs.length):Arr w (Np v sz l h) sz (((xs.drop l).take (h - l)).map enc):=by
 have:=Azt c a (by simpa using b);rwa [←Alg,←Agu] at this
section
variable {P : Bz} {σ : Env} {C : Ak → Prop} {d : Option Tmp} {T U E : TypeId} {pos : String} {after : Array Edge} {gd : Option (Nat × Bool)} {x lo hi : En} {g g' g'' : Bool} {v : Al} {m sz : Nat}
theorem S0 {w:Ak} (h:(P.info? E).map (·.size)=some sz):(sizeOf E).run P w=.ok sz w:=by
 obtain⟨a,hi,hs⟩:=K7.1 h;simp[sizeOf,typeInfo,hi,hs]
theorem As7 {k k':IntKind}{i j:Int} (q:Je P U E sz) (B:σ.ev x=some (g,v)) (s:g=true) (z:SliceLen v m) (A:σ.ev lo=some (g',.int k i)) (t:g'=true) (y:σ.ev hi=some (g'',.int k' j)) (u:g''=true)
  (l:0≤i) (o:i≤j) (G:j≤m):QV P ⟨d,.slice U x (some lo) (some hi) none,T,pos,after,gd⟩ σ C (Np v sz i.toNat j.toNat):=.of_run fun n F b w I=>by
 obtain⟨a,c,rfl,_,H⟩:=z;obtain⟨r,p⟩:=q;have e:=b.ev B s;have f:=b.ev A t;have h:=b.ev y u;have hs:=S0 (w:=w) p;have ej:(j.toNat:Int)=j:=Aep Aa;simp[execOp,e,f,h,Instr.sliceAt,Instr.slice,E5 r,Instr.sliceBounds,run_sliceBound,hs,ej,l,o,(by omega:0≤j),(by omega:j≤c),Np]
theorem Aw8 {k':IntKind}{j:Int} (k:Je P U E sz) (s:σ.ev x=some (g,v)) (o:g=true) (r:SliceLen v m) (q:σ.ev hi=some (g'',.int k' j)) (p:g''=true)
  (h:0≤j) (u:j≤m):QV P ⟨d,.slice U x none (some hi) none,T,pos,after,gd⟩ σ C (Np v sz 0 j.toNat):=.of_run fun n t b w z=>by
 obtain⟨a,c,rfl,_,y⟩:=r;obtain⟨l,i⟩:=k;have e:=b.ev s o;have f:=b.ev q p;have hs:=S0 (w:=w) i;simp[execOp,e,f,Instr.sliceAt,Instr.slice,E5 l,Instr.sliceBounds,run_sliceBound,hs,h,(by omega:j≤c),Np]
theorem Aw7 {k:IntKind}{i:Int} (o:Je P U E sz) (u:σ.ev x=some (g,v)) (q:g=true) (s:SliceLen v m) (t:σ.ev lo=some (g',.int k i)) (r:g'=true)
  (h:0≤i) (j:i≤m):QV P ⟨d,.slice U x (some lo) none none,T,pos,after,gd⟩ σ C (Np v sz i.toNat m):=.of_run fun n y b w A=>by
 obtain⟨a,c,rfl,_,z⟩:=s;obtain⟨p,l⟩:=o;have e:=b.ev u q;have f:=b.ev t r;have hs:=S0 (w:=w) l;simp[execOp,e,f,Instr.sliceAt,Instr.slice,E5 p,Instr.sliceBounds,run_sliceBound,hs,h,j,Np]
end
end Go.Rd
end
section
namespace Go.Rd
open Go.RowKit
def B5 (l:List UInt8):Al:=.string ⟨l.toArray⟩
def Aol (b:UInt8):List Al:=[.int .u8 (b.toNat:Int)]
theorem Aky:∀ b:UInt8,(Aol b).length=1:=fun _=>rfl
theorem Ais:∀ l:List UInt8,(l.map Aol).flatten=l.map fun b=>Value.int .u8 (b.toNat:Int)
 | []=>rfl
 | q::r=>by rw[Vv,Z0,Ais r];rfl
theorem Zl (l:List UInt8):(N1 l.toArray).toList=l:=by
 simp
section
variable {P : Bz} {n : Nat} {σ : Env} {C : Ak → Prop} {d : Option Tmp} {T U D E z : TypeId} {pos : String} {after : Array Edge} {gd : Option (Nat × Bool)} {x y : En} {g g' : Bool} {v : Al} {a b l : List UInt8}
theorem Aw6 (p:σ.ev x=some (g,B5 a)) (m:g=true) (q:σ.ev y=some (g',B5 b)) (o:g'=true) (s:a.length+b.length≤9223372036854775807):QV P ⟨d,.binOp .add U x y z,T,pos,after,gd⟩ σ C (B5 (a++b)):=.of_run fun n r c w t=>by
 have e:=c.ev p m;have f:=c.ev q o
 have h:(eqGuard .add U x y (B5 a) (B5 b)).run P w=.ok () w:=by simp[eqGuard]
 have i:(binOp .add U (B5 a) (B5 b)).run P w=.ok (B5 (a++b)) w:=by
  unfold B5;rw[binOp_string_add]
  have j:¬(((N1 a.toArray).size+(N1 b.toArray).size:Nat):Int)>IntKind.i64.max:=by
   have:IntKind.i64.max=9223372036854775807:=Ah;rw[this];simp[ByteArray.size];omega
  have k:(N1 a.toArray)++(N1 b.toArray)=N1 (a++b).toArray:=by
   apply ByteArray.ext;simp
  simp only[Op.stringOp,Bg j,k];rfl
 simp only[execOp,e,f,Uk,h,i,Um,T6]
theorem C4 (m:σ.ev x=some (g,B5 a)) (j:g=true) (o:σ.ev y=some (g',B5 b)) (k:g'=true):QV P ⟨d,.binOp .eql U x y z,T,pos,after,gd⟩ σ C (.bool (a==b)):=.of_run fun n p c w q=>by
 have e:=c.ev m j;have f:=c.ev o k
 have h:(eqGuard .eql U x y (B5 a) (B5 b)).run P w=.ok () w:=by simp[eqGuard,B5]
 have i:(binOp .eql U (B5 a) (B5 b)).run P w=.ok (.bool (a==b)) w:=by
  unfold B5;rw[binOp_string_eql,Zl,Zl];simp
 simp only[execOp,e,f,Uk,h,i,Um,T6]
theorem A1h (hs:P.underlying U=some (.slice E)) (i:P.underlying E=some (.int .u8)) (f:P.underlying D=some .string) (B:σ.ev x=some (g,v)) (s:g=true) (o:∀ w,C w→Arr w v 1 (l.map Aol)) :
  QV P ⟨d,.convert U D x,T,pos,after,gd⟩ σ C (B5 l):=.of_run fun n F p w A=>by
 have k:=p.ev B s;have h:=o w A;obtain⟨e,c,rfl,u,_⟩:=h.len;rw[Gl] at *
 have m:(convert U D (.slice e l.length c)).run P w=.ok (B5 l) w:=by
  cases e with
  | some e =>
   refine run_convert_bytes_back (P:=P) w U D E e c l hs i f fun j t=>?_;have:=h.cell (Bq Aky) j (.int .u8 (l[j].toNat:Int)) ?_
   ·exact this
   ·have:(l.map Aol).flatten=l.map fun b=>Value.int .u8 (b.toNat:Int):=by
     exact Ais l
    rw[this];rw[Zz,E7 t];rfl
  | none =>
   have:l=[]:=by
    cases l with
    | nil=>rfl
    | cons q r=>exact absurd (u Bf) Bf
   subst this;rw[run_convert_bytes_string w U D E none _ c hs i f];simp[Conv.bytesToString,B5];rfl
 simp[execOp,k,m]
end
end Go.Rd
end
section
namespace Go.Rd
def Agp (step plus a log:Int):Prop:=0≤log∧log≤5∧-64≤step∧step≤64∧-64≤plus∧plus≤64∧0≤a∧a≤200
instance {a b c d:Int}:Decidable (Agp a b c d):=by unfold Agp;infer_instance
def idx (step plus a log:Int):Int:=if Agp step plus a log then (step * a+plus) % 2 ^ log.toNat else 0
theorem Sr {a b A B:Int} (e:-A≤a) (f:a≤A) (c:0≤b) (g:b≤B):-(A * B)≤a * b∧a * b≤A * B:=by
 have h:0≤A:=Aa;have i:a * b≤A * b:=Aeu f c;have j:A * b≤A * B:=Aet g h;have d:(-A) * b≤a * b:=Aeu e c;rw[Int.neg_mul] at d;omega
theorem Aj3 {step a:Int} (b:-64≤step) (c:step≤64) (d:0≤a) (e:a≤200):-12800≤step * a∧step * a≤12800:=by
 have:=Sr (A:=64) (B:=200) b c d e;omega
theorem Ah4 (x:Int) (k:Nat) (b:k≤5):((K6 64 x &&& K6 64 (2 ^ k - 1)).toNat:Int)=x % 2 ^ k:=by
 have e:K6 64 (2 ^ k - 1)=BitVec.ofNat 64 (2 ^ k - 1):=by
  have:k=0∨k=1∨k=2∨k=3∨k=4∨k=5:=Aa;rcases this with rfl | rfl | rfl | rfl | rfl | rfl <;> rfl
 rw[e,BitVec.toNat_and,BitVec.toNat_ofNat,BitVec.toNat_ofInt]
 have a:(2 ^ k - 1) % 2 ^ 64=2 ^ k - 1:=by
  have:k=0∨k=1∨k=2∨k=3∨k=4∨k=5:=Aa;rcases this with rfl | rfl | rfl | rfl | rfl | rfl <;> rfl
 rw[a,Nat.and_two_pow_sub_one_eq_mod];have:k=0∨k=1∨k=2∨k=3∨k=4∨k=5:=Aa;rcases this with rfl | rfl | rfl | rfl | rfl | rfl <;> simp <;> omega
theorem Afr (log:Int) (a:0≤log) (b:log≤5):IntKind.i64.wrap (1 * 2 ^ (min log.toNat IntKind.i64.bits))=2 ^ log.toNat:=by
 have:log=0∨log=1∨log=2∨log=3∨log=4∨log=5:=Aa;rcases this with rfl | rfl | rfl | rfl | rfl | rfl <;> rfl
theorem My (k:Nat) (h:k≤5):(1:Int)≤2 ^ k∧(2:Int) ^ k≤32:=by
 have:k=0∨k=1∨k=2∨k=3∨k=4∨k=5:=Aa;rcases this with rfl | rfl | rfl | rfl | rfl | rfl <;> decide
theorem A6l {step plus a log:Int} (h:Agp step plus a log) :
  IntKind.i64.wrap (K6 IntKind.i64.bits (IntKind.i64.wrap (IntKind.i64.wrap (step * a)+plus)) &&& K6 IntKind.i64.bits (IntKind.i64.wrap (IntKind.i64.wrap (1 * 2 ^ (min log.toNat IntKind.i64.bits)) - 1))).toNat
   = idx step plus a log:=by
 have i:=h;obtain⟨b,c,d,e,k,l,f,g⟩:=h;have o:=Aj3 d e f g;have p:=My log.toNat Aa;rw[Afr log b c,Jl (n:=step * a) Aa Aa,Jl (n:=step * a+plus) Aa Aa,Jl (n:=2 ^ log.toNat - 1) Aa Aa];have:=Ah4 (step * a+plus) log.toNat Aa;show IntKind.i64.wrap (K6 64 (step * a+plus) &&& K6 64 (2 ^ log.toNat - 1)).toNat=_;rw[this,idx,Bj i];have j:=Ro (step * a+plus) (show (2:Int) ^ log.toNat≠0 from Aa);have m:=Rq (step * a+plus) (show (0:Int)<2 ^ log.toNat from Aa);exact Jl Aa Aa
theorem Uu (a:Int) {m:Int} (b:0<m):-m<a.tmod m∧a.tmod m<m:=by
 have c:=Int.tmod_lt_of_pos a b
 have d:-m<a.tmod m:=by
  have:=Int.tmod_lt_of_pos (-a) b;rw[Int.neg_tmod] at this;omega
 exact⟨d,c⟩
theorem Aoq (n:Int):IntKind.i64.wrap n=if n % 18446744073709551616≥9223372036854775808 then n % 18446744073709551616 - 18446744073709551616 else n % 18446744073709551616:=by
 simp[IntKind.wrap,IntKind.signed,IntKind.bits]
theorem A14 (n:Int):-9223372036854775808≤IntKind.i64.wrap n∧IntKind.i64.wrap n≤9223372036854775807:=by
 rw[Aoq];split <;> omega
def opV (op a b:Int):Int :=
 if op=1 then IntKind.i64.wrap (a+b) else if op=2 then IntKind.i64.wrap (a - b) else if op=3 then IntKind.i64.wrap (a * b)
 else if op=4 then IntKind.i64.wrap (K6 IntKind.i64.bits a &&& K6 IntKind.i64.bits b).toNat
 else if op=5 then IntKind.i64.wrap (K6 IntKind.i64.bits a ||| K6 IntKind.i64.bits b).toNat
 else if op=6 then IntKind.i64.wrap (K6 IntKind.i64.bits a ^^^ K6 IntKind.i64.bits b).toNat
 else if op=7 then (if a<b then 1 else 0) else if op=8 then (if a=b then 1 else 0) else 0
def Kn (op:Int):Int:=if op=3∨op=4 then 2 else if op=13 then 1 else 0
theorem Kw (op:Int):0≤Kn op∧Kn op<3:=by unfold Kn;split <;> (try split) <;> omega
theorem A6e (op a b:Int):-9223372036854775808≤opV op a b∧opV op a b≤9223372036854775807:=by
 unfold opV
 repeat' split
 all_goals first | exact A14 _ | omega
theorem Az8 (k:Nat):(2:Int) ^ k+2 ^ k=2 ^ (k+1):=by rw[Int.pow_succ];omega
theorem Azp {a b:Int} (e:0<b):(if a.tmod b<0 then a.tmod b+b else a.tmod b)=a % b:=by
 have d:=Al1 a b;have f:=Uu a e
 have c:a % b=a.tmod b % b:=by
  conv=>lhs;rw[←d]
  rw[Int.add_mul_emod_self_left]
 split
 ·rw[c,←Aq7,Alq Aa Aa]
 ·rw[c,Alq Aa Aa]
def Cv (a b c:Int) (k:Int):Int:=if k=0 then a else if k=1 then b else c
theorem Ir {l:List Al}{off:Nat}{a b c i:Int} (g:0≤i) (h:i<3) (d:l[off]?=some (.int .i64 a)) (e:l[off+1]?=some (.int .i64 b)) (f:l[off+2]?=some (.int .i64 c)) :
  l[off+i.toNat * 1]?=some (.int .i64 (Cv a b c i)):=by
 have:i=0∨i=1∨i=2:=Aa;rcases this with rfl | rfl | rfl
 ·simpa[Cv] using d
 ·simpa[Cv] using e
 ·simpa[Cv] using f
theorem Ez {M:Nat→Prop}{w0:Ak}{H:List Res} (k:Nat) {b:Nat}{cs:List Al}{T:TypeId}{off:Nat}{v:Al}{q:Addr} (a:H[k]?=some (blk b cs T)) (d:cs[off]?=some v) (c:q=⟨b,off,none⟩) :
  ∀ w,Own M w0 H w→w.cell? q=some v:=c▸Aq k a d
theorem Hu (b off m:Nat):(((⟨b,0,none⟩:Addr).add off).add m)=⟨b,off+m,none⟩:=by
 unfold Ma;by_cases h:off=0 <;> by_cases a:m=0 <;> simp[h,a]
structure Tgt where
 (u0 u1 u2 w0 w1 w2 regs:Int)
def Tgt.cells (t:Tgt):List Al:=[.int .i64 t.u0,.int .i64 t.u1,.int .i64 t.u2,.int .i64 t.w0,.int .i64 t.w1,.int .i64 t.w2,.int .i64 t.regs]
def Df (t:Tgt):Bool:=Ap ((1≤t.u0∧t.u0≤4∧1≤t.w0∧t.w0≤6)∧(1≤t.u1∧t.u1≤4∧1≤t.w1∧t.w1≤6)∧(1≤t.u2∧t.u2≤4∧1≤t.w2∧t.w2≤6)∧1≤t.regs∧t.regs≤128)
theorem F0 {t:Tgt}:Df t=true↔((1≤t.u0∧t.u0≤4∧1≤t.w0∧t.w0≤6)∧(1≤t.u1∧t.u1≤4∧1≤t.w1∧t.w1≤6)∧(1≤t.u2∧t.u2≤4∧1≤t.w2∧t.w2≤6)∧1≤t.regs∧t.regs≤128):=by
 unfold Df;exact Ag6
theorem Ajz {t:Tgt}:Df t=Az↔¬((1≤t.u0∧t.u0≤4∧1≤t.w0∧t.w0≤6)∧(1≤t.u1∧t.u1≤4∧1≤t.w1∧t.w1≤6)∧(1≤t.u2∧t.u2≤4∧1≤t.w2∧t.w2≤6)∧1≤t.regs∧t.regs≤128):=by
 unfold Df;exact Hs
def Fb (t:Tgt) (op:Int):Int:=if Df t=true then Cv t.w0 t.w1 t.w2 (Kn op) else 0
theorem Afs {a b c i lo hi:Int} (d:lo≤a∧a≤hi) (e:lo≤b∧b≤hi) (f:lo≤c∧c≤hi):lo≤Cv a b c i∧Cv a b c i≤hi:=by
 unfold Cv;split <;> (try split) <;> assumption
theorem Ur (t:Tgt) (op:Int):0≤Fb t op∧Fb t op≤6:=by
 unfold Fb;split
 ·rename_i h
  rw[F0] at h;exact Afs Aa Aa Aa
 ·omega
noncomputable def tb (p:Prop):Bool:=@decide p (Arh p)
theorem Al8 {p:Prop}:tb p=true↔p:=by unfold tb;exact @Ag6 p (Arh p)
theorem A5r {p:Prop}:tb p=Az↔¬p:=by unfold tb;exact @Hs p (Arh p)
theorem A4b {p:Prop} (h:p):tb p=true:=Al8.2 h
theorem Ayg {p:Prop} (h:¬p):tb p=Az:=A5r.2 h
theorem L6 {p:Prop}{b:Bool} (h:b=true↔p):b=tb p:=by
 cases a:b with
 | true=>exact(A4b (h.1 a)).symm
 | false=>exact(Ayg (fun c=>by rw[h.2 c] at a;cases a)).symm
structure Rf where
 (st bk:Int)
structure Stm where
 (op:Int)
 (a b:Rf)
 (ar sp pl n:Int)
structure Lp where
 (logs:List Int)
 (body:List Stm)
 (outs:List Int)
def Rf.cells (r:Rf):List Al:=[.int .i64 r.st,.int .i64 r.bk]
def Stm.cells (s:Stm):List Al:=[.int .i64 s.op,.int .i64 s.a.st,.int .i64 s.a.bk,.int .i64 s.b.st,.int .i64 s.b.bk,.int .i64 s.ar,.int .i64 s.sp,.int .i64 s.pl,.int .i64 s.n]
def Rf.zero:Rf:=⟨0,0⟩
def Stm.zero:Stm:=⟨0,Rf.zero,Rf.zero,0,0,0,0⟩
def Ar (n:Int):List Al:=[.int .i64 n]
theorem Bd:∀ n:Int,(Ar n).length=1:=fun n=>rfl
theorem Dl (ys:List Int):∀ u∈ys,∀ c∈Ar u,c.oneCell'=true:=fun n _ c a=>by simp[Ar] at a;subst a;rfl
def Bm (s:Stm):List Rf:=if s.op=4 then [s.a] else if s.op>10 then [s.a,s.b] else []
theorem O1 (s:Stm):(Bm s).length≤2:=by unfold Bm;split <;> (try split) <;> simp
def RefOk (n k:Int) (r:Rf):Prop:=0≤r.bk∧r.bk≤3∧0≤r.st∧(r.bk=0→r.st<k)∧(r.bk≠0→r.st<n)
def Lr (nl:Int) (s:Stm):Prop:=0≤s.ar∧s.ar<nl∧-64≤s.sp∧s.sp≤64∧-64≤s.pl∧s.pl≤64
def Mx (s:Stm):Prop:=s.ar=0∧s.sp=0∧s.pl=0
def Rf.isZero (r:Rf):Prop:=r.st=0∧r.bk=0
def V9 (nl n k:Int) (s:Stm):Prop :=
  ((s.op=4∨s.op>10)→RefOk n k s.a)∧(s.op>10→RefOk n k s.b) ∧
  ((s.op=1∧Mx s∧s.a.isZero∧s.b.isZero)∨(s.op=2∧s.n=0∧Mx s∧s.a.isZero∧s.b.isZero)∨(s.op=3∧s.n=0∧Lr nl s∧s.a.isZero∧s.b.isZero) ∨
   (s.op=4∧s.n=0∧Lr nl s∧s.b.isZero)∨(11≤s.op∧s.op≤18∧s.n=0∧Mx s))
def Jm (nl:Int) (s:Stm):Prop :=
  (s.op=1∧Mx s∧s.a.isZero∧s.b.isZero)∨(s.op=2∧s.n=0∧Mx s∧s.a.isZero∧s.b.isZero)∨(s.op=3∧s.n=0∧Lr nl s∧s.a.isZero∧s.b.isZero) ∨
   (s.op=4∧s.n=0∧Lr nl s∧s.b.isZero)∨(11≤s.op∧s.op≤18∧s.n=0∧Mx s)
def Arz (n k i:Int) (s:Stm):Prop:=∀ j:Nat,(j:Int)<i→j<(Bm s).length→RefOk n k ((Bm s).getD j Rf.zero)
theorem Aot {n k:Int}{s:Stm}:(∀ j:Nat,j<(Bm s).length→RefOk n k ((Bm s).getD j Rf.zero))↔(((s.op=4∨s.op>10)→RefOk n k s.a)∧(s.op>10→RefOk n k s.b)):=by
 unfold Bm;by_cases h:s.op=4
 ·simp only[h,Nt,Lv]
  constructor
  ·intro c;exact⟨fun _=>c 0 Aa,fun d=>Aa⟩
  ·intro c j e
   obtain rfl:j=0:=Aa;exact c.1 (.inl trivial)
 ·by_cases d:s.op>10
  ·simp only[h,d,Nt,if_false,Ef,E6]
   constructor
   ·intro c;exact⟨fun _=>c 0 Aa,fun _=>c 1 Aa⟩
   ·intro c j e
    have:j=0∨j=1:=Aa;rcases this with rfl | rfl
    ·exact c.1 (.inr trivial)
    ·exact c.2 trivial
  ·simp[h,d]
theorem Avu {nl n k i:Int}{s:Stm} (h:Arz n k i s) (b:¬i<(Bm s).length):V9 nl n k s↔Jm nl s:=by
 have:=Aot.1 (fun j a=>h j Aa a);unfold V9 Jm;exact⟨fun x=>x.2.2,fun x=>⟨this.1,this.2,x⟩⟩
theorem A55 {nl:Int}{s:Stm} (h:s.op=1):Jm nl s↔Mx s∧s.a.isZero∧s.b.isZero:=by unfold Jm;simp[h]
theorem A50 {nl:Int}{s:Stm} (h:s.op≠1) (a:s.n≠0):¬Jm nl s:=by unfold Jm;simp[h,a]
theorem A54 {nl:Int}{s:Stm} (h:s.op=2) (c:s.n=0):Jm nl s↔Mx s∧s.a.isZero∧s.b.isZero:=by unfold Jm;simp[h,c]
theorem A53 {nl:Int}{s:Stm} (h:s.op=3) (c:s.n=0):Jm nl s↔Lr nl s∧s.a.isZero∧s.b.isZero:=by unfold Jm;simp[h,c]
theorem A52 {nl:Int}{s:Stm} (h:s.op=4) (a:s.n=0):Jm nl s↔Lr nl s∧s.b.isZero:=by unfold Jm;simp[h,a]
theorem A51 {nl:Int}{s:Stm} (a:s.op≠1) (b:s.op≠2) (c:s.op≠3) (d:s.op≠4) (e:s.n=0):Jm nl s↔Mx s∧(11≤s.op∧s.op≤18):=by
 unfold Jm;simp[a,b,c,d,e];constructor <;> intro h <;> simp[h]
theorem A0f {op:Int} (h:InR op):(1≤IntKind.i64.wrap (op - 10)∧IntKind.i64.wrap (op - 10)<9)↔(11≤op∧op≤18):=by
 unfold InR at h;rw[Aoq];split <;> omega
def Amn (l:Lp) (i:Int):Prop:=∀ j:Nat,(j:Int)<i→0≤l.logs.getD j 0∧l.logs.getD j 0≤5
def Aba (l:Lp) (i:Int):Prop:=∀ j:Nat,(j:Int)<i→0≤l.outs.getD j 0∧l.outs.getD j 0<l.body.length∧(∀ m:Nat,j=m+1→l.outs.getD m 0<l.outs.getD j 0)
def Amo (l:Lp) (i:Int):Prop:=∀ j:Nat,(j:Int)<i→V9 l.logs.length l.body.length j (l.body.getD j Stm.zero)
def LoopOk (l:Lp):Prop:=l.logs.length≤3∧1≤l.body.length∧l.body.length≤16∧Amn l l.logs.length∧Aba l l.outs.length∧Amo l l.body.length
theorem A2d {p:Nat→Prop}:∀ j:Nat,(j:Int)<0→p j:=fun j a=>Aa
theorem A2e {p:Nat→Prop}{i:Int} (h:∀ j:Nat,(j:Int)<i→p j) (b:0≤i) (a:p i.toNat):∀ j:Nat,(j:Int)<i+1→p j:=fun j c=>by
 by_cases e:(j:Int)<i
 ·exact h j e
 ·obtain rfl:j=i.toNat:=by omega
  exact a
def Kv (l:Lp) (i:Int):Int:=if i=0 then -1 else l.outs.getD (i - 1).toNat 0
theorem A0e {l:Lp}{i:Int} (c:0≤i) (h:Aba l i):(Kv l i+1≤l.outs.getD i.toNat 0∧l.outs.getD i.toNat 0<l.body.length) ↔
  (0≤l.outs.getD i.toNat 0∧l.outs.getD i.toNat 0<l.body.length∧(∀ m:Nat,i.toNat=m+1→l.outs.getD m 0<l.outs.getD i.toNat 0)):=by
 unfold Kv;split
 ·subst i
  constructor
  ·intro a;exact⟨Aa,a.2,fun m b=>by simp at b⟩
  ·intro a;exact⟨Aa,a.2.1⟩
 ·rename_i hi
  have d:=h (i - 1).toNat Aa;constructor
  ·intro a
   refine⟨Aa,a.2,fun m b=>?_⟩;obtain rfl:m=(i - 1).toNat:=Aa;omega
  ·intro a
   have:=a.2.2 (i - 1).toNat Aa;exact⟨Aa,a.2.1⟩
theorem Asq {l:Lp}{i:Int} (a:0≤i) (h:Aba l i):-1≤Kv l i∧Kv l i+1≤l.body.length:=by
 unfold Kv;split
 ·exact⟨Aa,Aa⟩
 ·have b:=h (i - 1).toNat Aa
  exact⟨Aa,Aa⟩
theorem Anu {l:Lp}{i:Int} (a:0≤i):Kv l (i+1)=l.outs.getD i.toNat 0:=by
 unfold Kv;rw[Bg Aa,show i+1 - 1=i from Aa]
def Stm.InR (s:Stm):Prop:=Rd.InR s.op∧Rd.InR s.a.st∧Rd.InR s.a.bk∧Rd.InR s.b.st∧Rd.InR s.b.bk∧Rd.InR s.ar∧Rd.InR s.sp∧Rd.InR s.pl∧Rd.InR s.n
theorem Ah0 {α:Type}{p:α→Prop}{l:List α}{d:α} (h:∀ x∈l,p x) (a:p d) (i:Nat):p (l.getD i d):=by
 by_cases hi:i<l.length
 ·rw[Ec,E7 hi];exact h _ (Vy hi)
 ·rw[Ec,Q1 Aa];exact a
structure LpRep (w:Ak) (v1 v2 v3:Al) (l:Lp):Prop where
 logs:Arr w v1 1 (l.logs.map Ar)
 body:Arr w v2 9 (l.body.map Stm.cells)
 outs:Arr w v3 1 (l.outs.map Ar)
 rlogs:∀ x∈l.logs,InR x
 rbody:∀ x∈l.body,x.InR
 routs:∀ x∈l.outs,InR x
 llogs:l.logs.length≤maxLen
 lbody:l.body.length≤maxLen
 louts:l.outs.length≤maxLen
theorem Ht {p q:Prop} (h:p↔q):tb p=tb q:=by rw[propext h]
theorem LpRep.grow {w w':Ak}{v1 v2 v3:Al}{l:Lp} (h:LpRep w v1 v2 v3 l) (a:Grow w w'):LpRep w' v1 v2 v3 l :=
 { h with logs:=h.logs.grow a,body:=h.body.grow a,outs:=h.outs.grow a }
def Hy (p:Al×List Int):List Al:=[p.1]
structure RowsRep (w:Ak) (v:Al) (B:List (Al×List Int)):Prop where
 rows:Arr w v 1 (B.map Hy)
 each:∀ p∈B,Arr w p.1 1 (p.2.map Ar)
 rng:∀ p∈B,∀ x∈p.2,InR x
 lens:∀ p∈B,p.2.length≤maxLen
 len:B.length≤maxLen
theorem RowsRep.grow {w w':Ak}{v:Al}{B:List (Al×List Int)} (h:RowsRep w v B) (a:Grow w w'):RowsRep w' v B :=
 { h with rows:=h.rows.grow a,each:=fun p b=>(h.each p b).grow a }
def RowsK (k:Ak) (B:List (Al×List Int)):Prop:=∀ p∈B,Arr k p.1 1 (p.2.map Ar)
theorem RowsK.nil {k:Ak}:RowsK k []:=fun p a=>by cases a
def Agd:=@RowsK.nil
theorem RowsK.le {k k':Ak}{B:List (Al×List Int)} (h:RowsK k B) (a:Le k k'):RowsK k' B:=fun p b=>(h p b).le a
theorem RowsRep.le {k k':Ak}{v:Al}{B:List (Al×List Int)} (h:RowsRep k v B) (a:Le k k'):RowsRep k' v B:={ h with rows:=h.rows.le a,each:=fun p b=>(h.each p b).le a }
theorem LpRep.le {w w':Ak}{v1 v2 v3:Al}{l:Lp} (h:LpRep w v1 v2 v3 l) (a:Le w w'):LpRep w' v1 v2 v3 l:={ h with logs:=h.logs.le a,body:=h.body.le a,outs:=h.outs.le a }
theorem Vb {k:Ak}{B:List (Al×List Int)}{u:Al}{r:List Int} (h:RowsK k B) (b:Arr k u 1 (r.map Ar)):RowsK k (B++[(u,r)]):=fun p a=>by
 rcases F8.1 a with a | a
 ·exact h p a
 ·simp at a;subst a;exact b
theorem Ab8 {u:Al}{m:Nat}{r:List Int} (h:SliceLen u m):∀ p∈[(u,r)],∀ c∈Hy p,c.oneCell'=true:=fun p b c a=>by
 simp at b;subst b;simp[Hy] at a;subst a;exact h.one
end Go.Rd
end
section
namespace Go.Rd
open Go.RowKit
def ck {α:Type} (c:Prop) [Decidable c] (x:Option α):Option α:=if c then x else none
theorem Qw {α:Type}{c:Prop} [Decidable c] {x:Option α}{r:α} (h:ck c x=some r):c∧x=some r:=by
 unfold ck at h;split at h
 ·exact⟨‹_›,h⟩
 ·cases h
theorem Ax {α:Type}{c:Prop} [Decidable c] {x:Option α} (h:c):ck c x=x:=Bj h
def br {α:Type} (c:Bool) (a b:α):α:=bif c then a else b
theorem Aga {α:Type}{c:Bool}{a b r:α} (h:c=true) (d:br c a b=r):a=r:=by subst h;exact d
theorem Agb {α:Type}{c:Bool}{a b r:α} (h:c=Az) (d:br c a b=r):b=r:=by subst h;exact d
@[simp] theorem br_true {α:Type}{a b:α}:br true a b=a:=rfl
@[simp] theorem br_false {α:Type}{a b:α}:br Az a b=b:=rfl
def bd {α β:Type} (m:Option α) (k:α→Option β):Option β:=m.bind k
theorem An {α β:Type}{m:Option α}{k:α→Option β}{r:β} (h:bd m k=some r):∃ x,m=some x∧k x=some r:=by
 unfold bd at h
 cases m with
 | none=>cases h
 | some x=>exact⟨x,rfl,h⟩
@[simp] theorem bd_ret {α β:Type}{x:α}{k:α→Option β}:bd (some x) k=k x:=rfl
def bdG {α β:Type} [Inhabited α] (g:Bool) (m:Option α) (k:α→Option β):Option β:=br g (bd m k) (k default)
theorem Dg {α β:Type} [Inhabited α] {g:Bool}{m:Option α}{k:α→Option β}{r:β} (h:bdG g m k=some r):∃ x,(g=true→m=some x)∧k x=some r:=by
 cases g with
 | true=>obtain⟨x,a,b⟩:=An h;exact⟨x,fun _=>a,b⟩
 | false=>exact⟨default,fun h=>(by cases h),h⟩
inductive Stp (γ ρ:Type) where
 | next (g:γ)
 | brk (g:γ)
 | ret (r:ρ)
inductive Out (γ ρ:Type) where
 | go (g:γ)
 | ret (r:ρ)
def Out.on {γ ρ a:Type} (o:Out γ ρ) (A:γ→a) (B:ρ→a):a :=
 match o with
 | .go g=>A g
 | .ret r=>B r
@[simp] theorem Out.on_go {γ ρ δ:Type}{g:γ}{A:γ→δ}{B:ρ→δ}:Out.on (.go g) A B=A g:=rfl
@[simp] theorem Out.on_ret {γ ρ δ:Type}{r:ρ}{A:γ→δ}{B:ρ→δ}:Out.on (.ret r) A B=B r:=rfl
def Stp.fin {γ ρ:Type} (s:Stp γ ρ) (k:γ→Option (Out γ ρ)):Option (Out γ ρ) :=
 match s with
 | .next g=>k g
 | .brk g=>some (.go g)
 | .ret r=>some (.ret r)
def Cp {γ ρ:Type} (f:γ→Option (Stp γ ρ)):Nat→γ→Option (Out γ ρ)
 | 0,_=>none
 | n+1,g=>bd (f g) fun s=>s.fin (Cp f n)
theorem A0 {γ ρ:Type}{f:γ→Option (Stp γ ρ)}{n:Nat}{g:γ}{o:Out γ ρ} (h:Cp f n g=some o):∃ m s,n=m+1∧f g=some s∧s.fin (Cp f m)=some o:=by
 cases n with
 | zero=>cases h
 | succ m=>obtain⟨s,a,b⟩:=An h;exact⟨m,s,rfl,a,b⟩
theorem Apj {γ ρ:Type}{f:γ→Option (Stp γ ρ)}:∀ {n m:Nat}{g:γ}{o p:Out γ ρ},Cp f n g=some o→Cp f m g=some p→o=p
 | 0,_,_,_,_,h,_=>by cases h
 | n+1,0,_,_,_,_,h=>by cases h
 | n+1,m+1,g,o,p,h,h'=>by
  obtain⟨s,d,a⟩:=An h;obtain⟨e,c,b⟩:=An h';rw[d] at c;cases c
  cases s with
  | next g'=>exact Apj a b
  | brk g'=>simp only[Stp.fin,Gs] at a b;rw[←a,b]
  | ret r=>simp only[Stp.fin,Gs] at a b;rw[←a,b]
open Classical in
noncomputable def lp {γ ρ:Type} (f:γ→Option (Stp γ ρ)) (g:γ):Option (Out γ ρ):=if h:∃ n o,Cp f n g=some o then some (Classical.choose (Ag9 h)) else none
theorem S4 {γ ρ:Type}{f:γ→Option (Stp γ ρ)}{g:γ}{n:Nat}{o:Out γ ρ} (h:Cp f n g=some o):lp f g=some o:=by
 have a:∃ n o,Cp f n g=some o:=⟨n,o,h⟩;unfold lp;rw[dif_pos a];exact congrArg some (Apj (Ag9 (Ag9 a)) h)
theorem Am5 {γ ρ:Type}{f:γ→Option (Stp γ ρ)}{g:γ}{o:Out γ ρ} (h:lp f g=some o):∃ n,Cp f n g=some o:=by
 unfold lp at h;split at h
 ·rename_i a
  have:=Ag9 (Ag9 a)
  cases h
  exact⟨_,this⟩
 ·cases h
theorem A2t {γ ρ:Type}{f:γ→Option (Stp γ ρ)} (I:γ→Prop) (c:γ→Nat) (Q:Out γ ρ→Prop)
  (step:∀ g,I g→∃ s,f g=some s∧match s with
   | .next g'=>I g'∧c g'<c g
   | .brk g'=>Q (.go g')
   | .ret r=>Q (.ret r)) (g:γ) (d:I g):∃ o,lp f g=some o∧Q o:=by
 have key:∀ n g,c g<n→I g→∃ m o,Cp f m g=some o∧Q o:=by
  intro n
  induction n with
  | zero=>intro g h;omega
  | succ n k =>
   intro g l j;obtain⟨s,b,a⟩:=step g j
   cases s with
   | next g' =>
    obtain⟨m,o,e,i⟩:=k g' (by have:=a.2;omega) a.1;exact⟨m+1,o,by simp[Cp,b,Stp.fin,e],i⟩
   | brk g'=>exact⟨1,.go g',by simp[Cp,b,Stp.fin],a⟩
   | ret r=>exact⟨1,.ret r,by simp[Cp,b,Stp.fin],a⟩
 obtain⟨m,o,b,a⟩:=key (c g+1) g Aa d;exact⟨o,S4 b,a⟩
theorem Ly {γ ρ:Type}{f:γ→Option (Stp γ ρ)}{g g':γ} (h:f g=some (.next g')):lp f g=lp f g':=by
 cases b:lp f g' with
 | some o =>
  obtain⟨n,a⟩:=Am5 b;exact S4 (n:=n+1) (by simp[Cp,h,Stp.fin,a])
 | none =>
  cases e:lp f g with
  | none=>rfl
  | some o =>
   obtain⟨n,a⟩:=Am5 e;obtain⟨m,s,rfl,c,d⟩:=A0 a;rw[h] at c;cases c;rw[S4 d] at b;cases b
theorem Db {γ ρ:Type}{f:γ→Option (Stp γ ρ)}{g g':γ} (h:f g=some (.brk g')):lp f g=some (.go g'):=S4 (n:=1) (by simp[Cp,h,Stp.fin])
theorem Hw {γ ρ:Type}{f:γ→Option (Stp γ ρ)}{g:γ}{r:ρ} (h:f g=some (.ret r)):lp f g=some (.ret r):=S4 (n:=1) (by simp[Cp,h,Stp.fin])
theorem Bh {γ ρ:Type}{s:Stp γ ρ}{k:γ→Option (Out γ ρ)}{g:γ}{o:Out γ ρ} (h:some (Stp.brk g)=some s) (a:s.fin k=some o):o=.go g:=by cases h;cases a;rfl
theorem Dr {γ ρ:Type}{s:Stp γ ρ}{k:γ→Option (Out γ ρ)}{r:ρ}{o:Out γ ρ} (h:some (Stp.ret r)=some s) (a:s.fin k=some o):o=.ret r:=by cases h;cases a;rfl
theorem A3 {γ ρ:Type}{s:Stp γ ρ}{k:γ→Option (Out γ ρ)}{g:γ}{o:Out γ ρ} (h:some (Stp.next g)=some s) (a:s.fin k=some o):k g=some o:=by cases h;exact a
theorem Ad {α:Type}{a b:α} (h:some a=some b):b=a:=by cases h;rfl
def IR (n:Int):Prop:=-9223372036854775808≤n∧n≤9223372036854775807
instance (n:Int):Decidable (IR n):=by unfold IR;infer_instance
def IX (i n:Int):Prop:=0≤i∧i<n
instance (i n:Int):Decidable (IX i n):=by unfold IX;infer_instance
def AL (n bytes:Nat):Prop:=n≤maxLen∧n * bytes≤140737488355328
instance (n b:Nat):Decidable (AL n b):=by unfold AL;infer_instance
def ln {α:Type} (xs:List α):Int:=xs.length
def ele {α:Type} [Inhabited α] (xs:List α) (i:Int):α:=xs.getD i.toNat default
def upd {α:Type} (xs:List α) (i:Int) (x:α):List α:=xs.set i.toNat x
def sub {α:Type} (xs:List α) (i j:Int):List α:=(xs.drop i.toNat).take (j - i).toNat
instance:Inhabited Rf:=⟨Rf.zero⟩
instance:Inhabited Stm:=⟨Stm.zero⟩
instance:Inhabited Lp:=⟨⟨[],[],[]⟩⟩
instance:Inhabited Tgt:=⟨⟨0,0,0,0,0,0,0⟩⟩
theorem Base.rfl {w:Ak}:Base noM w w:=fun a v h=>⟨h,fun x=>x⟩
def D0:=@Base.rfl
theorem SliceLen.ix {v:Al}{n:Nat} (h:SliceLen v n) {sz:Nat}{i m:Int} (a:m=n) (hi:IX i m):∃ p,Lw v i sz p:=by subst a;exact h.elem sz i hi.1 hi.2
theorem SliceLen.ixG {v:Al}{n:Nat} (h:SliceLen v n) {sz:Nat}{i m:Int} (b:m=n) {g:Prop} (hi:g→IX i m):∃ p,g→Lw v i sz p:=by
 by_cases a:g
 ·obtain⟨p,c⟩:=h.ix b (hi a)
  exact⟨p,fun _=>c⟩
 ·exact⟨default,fun h=>absurd h a⟩
theorem Arr.ele {α:Type} [Inhabited α] {w:Ak}{v:Al}{sz:Nat}{xs:List α}{enc:α→List Al}{i:Int}{p:Addr} (h:Arr w v sz (xs.map enc)) (b:Lw v i sz p) (hi:IX i (ln xs)):CellsAt w p (enc (ele xs i)) 0:=by
 refine h.row i.toNat _ p ?_ (by rwa [Aep hi.1])
 have a:i.toNat<xs.length:=by have:=hi.1;have:=hi.2;unfold ln at this;omega
 simp[Rd.ele,Ec,E7 a]
theorem Ao {α:Type}{xs:List α}:ln xs=(xs.length:Int):=rfl
section
variable {P : Bz} {n : Nat} {ops : Array Oper} {Q : Exit → Act → Ak → Prop} {rest : List Oper} {oi : Oper} {σ : Env} {M : Nat → Prop} {w0 k0 k : Ak} {H : List Res} {v : Al} {d : Nat} {S : Ak → Prop}
theorem WL.q (a:oi.dst=some d) (b:oi.guard=none) (c:Nat.blt d n=true) (e:QV P oi σ (Own M w0 H) v) (kk:WK n (wpList P ops Q rest) ((d,(true,v))::σ) (Own M w0 H)):WK n (wpList P ops Q (oi::rest)) σ (Own M w0 H) :=
 Ap2 Ga a (by simpa[T5] using c) (b▸Axk) (fun _=>e) kk
theorem WL.g {G:Bool} (b:oi.dst=some d) (c:Nat.blt d n=true) (a:GuardIs ops σ oi.guard G) (e:G=true→QV P oi σ (Own M w0 H) v) (kk:WK n (wpList P ops Q rest) ((d,(G,v))::σ) (Own M w0 H)):WK n (wpList P ops Q (oi::rest)) σ (Own M w0 H) :=
 Ap2 Ga b (by simpa[T5] using c) a e kk
class POk (Q:Exit→Act→Ak→Prop):Prop where
 ok:PanicOk Q
instance {fn:Func}{R:Ending→Ak→Prop}:POk (bodyPost P fn R):=⟨PanicOk.body⟩
instance {K:Act→Ak→Prop} [h:POk Q]:POk (Exit.then K Q):=⟨PanicOk.then h.ok⟩
instance {id:Nat} [h:POk Q]:POk (Hi id Q):=⟨PanicOk.block h.ok⟩
def upto (i m:Nat):Array Bool:=(Array.range m).map (fun j=>Nat.blt j i)
theorem A09 {i j:Nat} (h:i≠j):Nat.blt j (i+1)=Nat.blt j i:=by
 apply Bool.eq_iff_iff.2;rw[T5,T5];omega
theorem Aci {i m:Nat}:(upto i m).setIfInBounds i true=upto (i+1) m:=by
 have hs:∀ i,(upto i m).size=m:=fun i=>by simp[upto]
 have a:∀ i j,(upto i m)[j]?=if j<m then some (Nat.blt j i) else none:=fun i j=>by
  by_cases h:j<m <;> simp[upto,h]
 apply Alx;intro j;rw[Array.getElem?_setIfInBounds,hs,a,a];by_cases e:i=j
 ·subst e
  have b:Nat.blt i (i+1)=true:=by rw[T5];omega
  simp[b]
 ·simp[e,A09 e]
theorem Avk {m:Nat}:Array.replicate m Az=upto 0 m:=by
 apply Array.ext
 ·simp[upto]
 ·intro j a b
  simp only[upto,Array.getElem_replicate,Array.getElem_map,Array.getElem_range]
  cases j <;> rfl
def Re (ops:Array Oper) (i m:Nat):Bool:=Region.noSelect ops&&Region.free .any ops (upto i m) i&&(Region.ready .any ops (upto i m)).contains i
theorem Aon {id m:Nat} (b:P.follows .mixedOrders=true) (hs:ops.size=m) (a:∀ w,Own M w0 H w→S w) (h:WD P n ops Q S m (upto 0 m) σ (Own M w0 H)):WK n ((Sp id ops true).wp P Q) σ (Own M w0 H):=by
 subst hs;rw[←Avk] at h;exact WC.drawn b Ga a h
theorem WD.q (i:Nat) {m b:Nat} [hQ:POk Q] (hi:ops[i]?=some oi) (a:Re ops i m=true) (c:oi.dst=some d) (e:oi.guard=none) (f:Nat.blt d n=true) (g:QV P oi σ S v)
  (kk:WD P n ops Q S b (upto (i+1) m) ((d,(true,v))::σ) (Own M w0 H)):WD P n ops Q S (b+1) (upto i m) σ (Own M w0 H):=by
 unfold Re at a;simp only[Fa] at a;exact WD.take i hi a.1.1 a.1.2 a.2 Aci hQ.ok Ga c (by simpa[T5] using f) (e▸Axk) (fun _=>g) kk
theorem WD.g (i:Nat) {m b:Nat}{G:Bool} [hQ:POk Q] (hi:ops[i]?=some oi) (a:Re ops i m=true) (e:oi.dst=some d) (f:Nat.blt d n=true) (c:GuardIs ops σ oi.guard G) (h:G=true→QV P oi σ S v)
  (kk:WD P n ops Q S b (upto (i+1) m) ((d,(G,v))::σ) (Own M w0 H)):WD P n ops Q S (b+1) (upto i m) σ (Own M w0 H):=by
 unfold Re at a;simp only[Fa] at a;exact WD.take i hi a.1.1 a.1.2 a.2 Aci hQ.ok Ga e (by simpa[T5] using f) c h kk
def Ayr (ops:Array Oper) (i m:Nat):Bool:=Region.ready .any ops (upto i m)==[i]
theorem WD.o (i:Nat) {m a:Nat} (hi:ops[i]?=some oi) (b:Ayr ops i m=true) (e:oi.guard=none)
  (h:EV P n oi σ (Own M w0 H) (fun c w'=>∃ C' S':Ak→Prop,Im C'∧(∀ x,C' x→S' x)∧(∀ x,S' x→S x)∧C' w'∧Nu P .any ops Q S' a (upto (i+1) m) C' c) Q):WD P n ops Q S (a+1) (upto i m) σ (Own M w0 H) :=
 WD.only i hi (by unfold Ayr at b;exact Dk.1 b) Aci e h
def Cx:=@WD.o
theorem WD.b {l:Array Bool}{a:Nat}{τ:Env}{H':List Res} (hs:∀ w,Own M w0 H w→Own M w0 H' w) (e:∀ w,Own M w0 H' w→S w) (h:WD P n ops Q (Own M w0 H') a l τ (Own M w0 H)) :
  WK n (fun c w'=>∃ C' S':Ak→Prop,Im C'∧(∀ x,C' x→S' x)∧(∀ x,S' x→S x)∧C' w'∧Nu P .any ops Q S' a l C' c) τ (Own M w0 H):=Aw1 Ga hs e h
def lst (m k:Nat):Array Bool:=(Array.range m).map (fun j=>k.testBit j)
def Wa (ops:Array Oper) (i m k k':Nat):Bool:=Region.noSelect ops&&Region.free .any ops (lst m k) i&&(Region.ready .any ops (lst m k)).contains i&&((lst m k).setIfInBounds i true==lst m k')
theorem WD.qL (i k k':Nat) {m b:Nat} [hQ:POk Q] (hi:ops[i]?=some oi) (a:Wa ops i m k k'=true) (c:oi.dst=some d) (e:oi.guard=none) (f:Nat.blt d n=true) (g:QV P oi σ S v)
  (kk:WD P n ops Q S b (lst m k') ((d,(true,v))::σ) (Own M w0 H)):WD P n ops Q S (b+1) (lst m k) σ (Own M w0 H):=by
 unfold Wa at a;simp only[Fa] at a;exact WD.take i hi a.1.1.1 a.1.1.2 a.1.2 (Dk.1 a.2) hQ.ok Ga c (by simpa[T5] using f) (e▸Axk) (fun _=>g) kk
def Aft (ops:Array Oper) (i m k k':Nat):Bool:=Region.ready .any ops (lst m k)==[i]&&((lst m k).setIfInBounds i true==lst m k')
theorem Hz (i k k':Nat) {m b:Nat} (hi:ops[i]?=some oi) (a:Aft ops i m k k'=true) (e:oi.guard=none)
  (h:EV P n oi σ (Own M w0 H) (fun c w'=>∃ C' S':Ak→Prop,Im C'∧(∀ x,C' x→S' x)∧(∀ x,S' x→S x)∧C' w'∧Nu P .any ops Q S' b (lst m k') C' c) Q):WD P n ops Q S (b+1) (lst m k) σ (Own M w0 H):=by
 unfold Aft at a;simp only[Fa] at a;exact WD.only i hi (Dk.1 a.1) (Dk.1 a.2) e h
def Afv (ops:Array Oper) (i m k k':Nat):Bool:=Region.ready .any ops (lst m k)==[i]&&(match ops[i]? with | some oi=>Aoa ops oi (lst m k) | none=>Az)&&(Region.ready .any ops (lst m k')==[]&&((lst m k).setIfInBounds i true==lst m k'))
theorem WD.lL (i k k':Nat) {m b:Nat} (hi:ops[i]?=some oi) (a:Afv ops i m k k'=true) (c:oi.guard=none) (h:EV P n oi σ (Own M w0 H) (Q .normal) Q):WD P n ops Q S (b+1) (lst m k) σ (Own M w0 H):=by
 unfold Afv at a;rw[hi] at a;simp only[Fa,Dk] at a;exact WD.last i hi a.1.1 a.1.2 (by rw[a.2.2];exact a.2.1) c h
theorem Up {m k a:Nat} (b:(Region.ready .any ops (lst m k)==[])=true) (kk:WK n (Q .normal) σ (Own M w0 H)):WD P n ops Q S a (lst m k) σ (Own M w0 H):=WD.done (Dk.1 b) kk
theorem Yk {m i a:Nat} (k:Nat) (h:(upto i m==lst m k)=true) (kk:WD P n ops Q S a (lst m k) σ (Own M w0 H)):WD P n ops Q S a (upto i m) σ (Own M w0 H):=by rw[Dk.1 h];exact kk
def Ayy (ops:Array Oper) (i m:Nat):Bool:=Region.ready .any ops (upto i m)==[i]&&(match ops[i]? with | some oi=>Aoa ops oi (upto i m) | none=>Az)&&Region.ready .any ops (upto (i+1) m)==[]
theorem WD.l (i:Nat) {m b:Nat} (hi:ops[i]?=some oi) (a:Ayy ops i m=true) (c:oi.guard=none) (h:EV P n oi σ (Own M w0 H) (Q .normal) Q):WD P n ops Q S (b+1) (upto i m) σ (Own M w0 H):=by
 unfold Ayy at a;rw[hi] at a;simp only[Fa,Dk] at a;exact WD.last i hi a.1.1 a.1.2 (by rw[Aci];exact a.2) c h
def Ig:=@WD.l
theorem WD.e {m a:Nat} (b:(Region.ready .any ops (upto m m)==[])=true) (kk:WK n (Q .normal) σ (Own M w0 H)):WD P n ops Q S a (upto m m) σ (Own M w0 H):=WD.done (Dk.1 b) kk
def Eh:=@WD.e
theorem As5 {C:Ak→Prop}{G:Bool} (c:GuardIs ops σ oi.guard G) (e:G=true) (h:EV P n oi σ C (wpList P ops Q rest) Q):WK n (wpList P ops Q (oi::rest)) σ C:=fun a w b f=>by
 unfold wpList;rw[Bj ((U7 _ _).trans ((c n a b).trans e))];exact h a w b f
theorem A08 {p:Prop} (b:Bool) (c:b=true→p) (a:b=Az→p):p:=by cases b with | true=>exact c rfl | false=>exact a rfl
end
end Go.Rd
end
section
namespace Go.Rd
def Ava:Nat→List Res→Option Res
 | _,[]=>none
 | 0,r::_=>some r
 | j+1,_::H=>Ava j H
def Axn (j:Nat):List Nat→Bool
 | []=>Az
 | k::r=>bif Nat.beq j k then true else Axn j r
def Aoh:List Nat→Bool
 | []=>true
 | j::r=>bif Axn j r then Az else Aoh r
def Atj (H:List Res):List Nat→Option (List Res)
 | []=>some []
 | j::js=>match Ava j H,Atj H js with
  | some r,some l=>some (r::l)
  | _,_=>none
def pickE (a:List Nat) (H:List Res):Option (List Res):=bif Aoh a then Atj H a else none
theorem At7:∀ (j:Nat) (H:List Res),Ava j H=H[j]?
 | _,[]=>by simp[Ava]
 | 0,r::_=>by simp[Ava]
 | j+1,_::H=>by simp[Ava,At7 j H]
theorem Aua {j:Nat}:∀ {l:List Nat},Axn j l=Az→j∉l
 | [],_=>Bf
 | k::r,h=>by
  unfold Axn at h
  cases a:Nat.beq j k with
  | true=>rw[a] at h;cases h
  | false =>
   rw[a] at h;intro b;rcases Gw.1 b with e | b
   ·subst e;simp at a
   ·exact Aua h b
theorem Apa:∀ {l:List Nat},Aoh l=true→l.Nodup
 | [],_=>List.nodup_nil
 | j::r,h=>by
  unfold Aoh at h
  cases a:Axn j r with
  | true=>rw[a] at h;cases h
  | false=>rw[a] at h;exact Alo.2 ⟨Aua a,Apa h⟩
theorem Ao6 {H:List Res}:∀ {a:List Nat}{H':List Res},Atj H a=some H'→Agk a H=H'
 | [],_,h=>by cases h;rfl
 | j::a,H',h=>by
  unfold Atj at h;split at h
  ·rename_i r l b c
   cases h
   rw[At7] at b;have:=Ao6 c;unfold Agk at *;rw[List.filterMap_cons,b,this]
  ·cases h
theorem Own.pickE {M:Nat→Prop}{w0 w:Ak}{H H':List Res}{b:List Nat} (h:pickE b H=some H') (c:Own M w0 H w):Own M w0 H' w:=by
 unfold Go.Rd.pickE at h
 cases a:Aoh b with
 | false=>rw[a] at h;cases h
 | true =>
  rw[a] at h;have:=Ao6 h;rw[←this];exact c.pick b (Apa a)
def A4n (σ:Env):List Nat→Option Env
 | []=>some []
 | t::ts=>match σ.look t,A4n σ ts with
  | some (g,v),some τ=>some ((t,(g,v))::τ)
  | _,_=>none
def Arw (σ:Env):Env→List (Option (Bool×Al))
 | []=>[]
 | (t,_)::r=>σ.look t::Arw σ r
def Ax3:Env→List (Option (Bool×Al))
 | []=>[]
 | (_,x)::r=>some x::Ax3 r
theorem sb {σ:Env}:∀ {τ:Env},Arw σ τ=Ax3 τ→Sub σ τ
 | [],_=>trivial
 | (t,x)::r,h=>by
  unfold Arw Ax3 at h
  injection h with a b
  exact⟨a,sb b⟩
def Aqw (σ:Env):List En→Option (List Al)
 | []=>some []
 | x::xs=>match σ.ev x,Aqw σ xs with
  | some (true,v),some vs=>some (v::vs)
  | _,_=>none
theorem ea {σ:Env}:∀ {xs:List En}{vs:List Al},Aqw σ xs=some vs→EvAll σ xs vs
 | [],_,h=>by cases h;exact EvAll.nil
 | x::xs,vs,h=>by
  unfold Aqw at h;split at h
  ·rename_i v c a b;cases h;exact De a rfl (ea b)
  ·cases h
def Azc (vs:List Al):Bool:=vs.all Value.oneCell'
theorem oz {vs:List Al} (h:Azc vs=true):∀ u∈vs,u.oneCell'=true:=fun u a=>Ag0.1 h u a
def Det (σ:Env) (H:List Res) (τ:Env) (a:List Res):Prop:=True
theorem dt {σ τ:Env}{H a:List Res} (ks b:List Nat) (h:(A4n σ ks,pickE b H)=(some τ,some a)):Det σ H τ a:=trivial
end Go.Rd
end
section
namespace Go.Rd
open Go.RowKit
section
variable {P : Bz} {n : Nat} {Q : Exit → Act → Ak → Prop} {σ : Env} {M : Nat → Prop} {w0 : Ak} {H : List Res} {id : Nat}
theorem N5 {Γ:Type} (τ:Env) (S:Γ→Env) (R:Γ→List Res) {d:List Res} (I:Γ→Nat→Prop) (J:Γ→Prop) (f:Γ) (r:Nat) {c:Code} (x:I f r) (hs:Sub σ (S f++τ)) (t:∀ w,Own M w0 H w→Own M w0 (R f++d) w)
  (rest:∀ g,J g→WK n (Q .normal) (S g++τ) (Own M w0 (R g++d)))
  (y:∀ g m,I g m→WK n (c.wp P (Exit.then (fun b w'=>∃ g' m',I g' m'∧m'<m∧Has n b (S g'++τ)∧Own M w0 (R g'++d) w') (Hi id (Exit.then (fun b w'=>∃ g',J g'∧Has n b (S g'++τ)∧Own M w0 (R g'++d) w') Q)))) (S g++τ) (Own M w0 (R g++d))) :
  WK n ((Qc id (Pk c)).wp P Q) σ (Own M w0 H):=by
 refine Cq ?_
 have v:WK n ((Pk c).wp P (Hi id (Exit.then (fun b w'=>∃ g',J g'∧Has n b (S g'++τ)∧Own M w0 (R g'++d) w') Q))) σ (Own M w0 H) :=
  WC.loop (Γ:=Γ×Nat) (fun g=>S g.1++τ) (fun g=>Own M w0 (R g.1++d)) (fun g=>I g.1 g.2) (fun g=>g.2) (f,r) x hs t fun g u a w o q=>by
   refine L9 (y g.1 g.2 u a w o q) fun e b w' h=>?_
   cases e <;> first | exact h | (obtain⟨g',m',i,k,l,s⟩:=h;exact⟨(g',m'),i,k,l,s⟩)
 have key:∀ a w,Exit.then (fun b w'=>∃ g',J g'∧Has n b (S g'++τ)∧Own M w0 (R g'++d) w') Q .normal a w→Q .normal a w:=fun a w ⟨g',i,k,l⟩=>rest g' i a w k l
 intro a w o q;refine L9 (v a w o q) fun e b w' h=>?_
 cases e with
 | exit j =>
  simp only[Hi] at h ⊢;split at h
  ·rename_i p;rw[Bj p];exact key _ _ h
  ·rename_i p;rw[Bg p];exact h
 | normal=>exact key _ _ h
 | _=>exact h
theorem Ah6 {Γ:Type} (τ:Env) (S:Γ→Env) (R:Γ→List Res) {b:List Res} (J:Γ→Prop) {x y:Code} (o:Sub σ τ) (m:∀ w,Own M w0 H w→Own M w0 b w)
  (rest:∀ g,J g→WK n (y.wp P Q) (S g++τ) (Own M w0 (R g++b)))
  (l:WK n (x.wp P (Exit.then (fun c w'=>∃ g',J g'∧Has n c (S g'++τ)∧Own M w0 (R g'++b) w') Q)) σ (Own M w0 H)):WK n (x.wp P (Exit.then (y.wp P Q) Q)) σ (Own M w0 H):=by
 intro a w j k;refine L9 (l a w j k) fun e c w' h=>?_
 cases e with
 | normal=>obtain⟨g',d,f,i⟩:=h;exact rest g' d c w' f i
 | _=>exact h
theorem D6 {i:Type}{τ:Env}{d:List Res} (z:Det σ H τ d) (S:i→Env) (R:i→List Res) (I:i→Nat→Prop) (J:i→Prop) (i0:i) (q:Nat) {c:Code} (x:I i0 q) (hs:Sub σ (S i0++τ)) (t:∀ w,Own M w0 H w→Own M w0 (R i0++d) w)
  (rest:∀ g0,J g0→WK n (Q .normal) (S g0++τ) (Own M w0 (R g0++d)))
  (y:∀ g0 m,I g0 m→WK n (c.wp P (Exit.then (fun f w'=>∃ b m',I b m'∧m'<m∧Has n f (S b++τ)∧Own M w0 (R b++d) w') (Hi id (Exit.then (fun f w'=>∃ b,J b∧Has n f (S b++τ)∧Own M w0 (R b++d) w') Q)))) (S g0++τ) (Own M w0 (R g0++d))) :
  WK n ((Qc id (Pk c)).wp P Q) σ (Own M w0 H) :=
 N5 (Γ:=i) τ (fun g=>S g) (fun g=>R g) (fun g m=>I g m) (fun g=>J g) i0 q x hs t (fun g h=>rest g h) fun g m u a w s v=>by
  refine L9 (y g m u a w s v) fun e f w' h=>?_;have key:∀ a w,(fun f w'=>∃ b,J b∧Has n f (S b++τ)∧Own M w0 (R b++d) w') a w→(fun f w'=>∃ g':i,J g'∧Has n f (S g'++τ)∧Own M w0 (R g'++d) w') a w:=fun a w ⟨b,k,l,o⟩=>⟨b,k,l,o⟩
  cases e with
  | normal=>obtain⟨b,m',k,l,o,r⟩:=h;exact⟨b,m',k,l,o,r⟩
  | exit j =>
   simp only[Exit.then,Hi] at h ⊢;split at h
   ·rename_i p;rw[Bj p];exact key _ _ h
   ·rename_i p;rw[Bg p];exact h
  | _=>exact h
theorem D5 {b:Type}{S:b→Env}{R:b→List Res}{d:List Res}{I:b→Nat→Prop}{m:Nat}{τ:Env} (i0:b) (m':Nat) (f:I i0 m') (i:m'<m) (hs:Sub σ (S i0++τ)) (h:∀ w,Own M w0 H w→Own M w0 (R i0++d) w) :
  WK n (Exit.then (fun e w'=>∃ c m',I c m'∧m'<m∧Has n e (S c++τ)∧Own M w0 (R c++d) w') Q .normal) σ (Own M w0 H):=fun a w g j=>⟨i0,m',f,i,g.sub hs,h w j⟩
theorem Eo {b:Type}{S:b→Env}{R:b→List Res}{d:List Res}{J:b→Prop}{τ:Env} (i0:b) (f:J i0) (hs:Sub σ (S i0++τ)) (h:∀ w,Own M w0 H w→Own M w0 (R i0++d) w) :
  WK n (Exit.then (fun e w'=>∃ c,J c∧Has n e (S c++τ)∧Own M w0 (R c++d) w') Q .normal) σ (Own M w0 H):=fun a w g i=>⟨i0,f,g.sub hs,h w i⟩
theorem Aef {d:Type}{τ:Env}{c:List Res} (r:Det σ H τ c) (S:d→Env) (R:d→List Res) (J:d→Prop) {x y:Code} (q:Sub σ τ) (m:∀ w,Own M w0 H w→Own M w0 c w)
  (rest:∀ g0,J g0→WK n (y.wp P Q) (S g0++τ) (Own M w0 (R g0++c)))
  (p:WK n (x.wp P (Exit.then (fun f w'=>∃ b,J b∧Has n f (S b++τ)∧Own M w0 (R b++c) w') Q)) σ (Own M w0 H)):WK n (x.wp P (Exit.then (y.wp P Q) Q)) σ (Own M w0 H) :=
 Ah6 (Γ:=d) τ (fun g=>S g) (fun g=>R g) (fun g=>J g) q m (fun g h=>rest g h) fun a w l o=>by
  refine L9 (p a w l o) fun e f w' h=>?_
  cases e with
  | normal=>obtain⟨b,i,j,k⟩:=h;exact⟨b,i,j,k⟩
  | _=>exact h
theorem B6 {k l:Type}{τ:Env}{f:List Res} (C:Det σ H τ f) (S:k→l→Env) (R:k→l→List Res) (I:k→l→Nat→Prop) (J:k→l→Prop) (i0:k) (o:l) (t:Nat) {c:Code} (A:I i0 o t) (hs:Sub σ (S i0 o++τ)) (x:∀ w,Own M w0 H w→Own M w0 (R i0 o++f) w)
  (rest:∀ g0 g1,J g0 g1→WK n (Q .normal) (S g0 g1++τ) (Own M w0 (R g0 g1++f)))
  (B:∀ g0 g1 m,I g0 g1 m→WK n (c.wp P (Exit.then (fun i w'=>∃ b d m',I b d m'∧m'<m∧Has n i (S b d++τ)∧Own M w0 (R b d++f) w') (Hi id (Exit.then (fun i w'=>∃ b d,J b d∧Has n i (S b d++τ)∧Own M w0 (R b d++f) w') Q)))) (S g0 g1++τ) (Own M w0 (R g0 g1++f))) :
  WK n ((Qc id (Pk c)).wp P Q) σ (Own M w0 H) :=
 N5 (Γ:=k×l) τ (fun g=>S (g.1) (g.2)) (fun g=>R (g.1) (g.2)) (fun g m=>I (g.1) (g.2) m) (fun g=>J (g.1) (g.2)) (i0,o) t A hs x (fun g h=>rest (g.1) (g.2) h) fun g m y a w v z=>by
  refine L9 (B (g.1) (g.2) m y a w v z) fun e i w' h=>?_;have key:∀ a w,(fun i w'=>∃ b d,J b d∧Has n i (S b d++τ)∧Own M w0 (R b d++f) w') a w→(fun i w'=>∃ g':k×l,J (g'.1) (g'.2)∧Has n i (S (g'.1) (g'.2)++τ)∧Own M w0 (R (g'.1) (g'.2)++f) w') a w:=fun a w ⟨b,d,p,q,r⟩=>⟨(b,d),p,q,r⟩
  cases e with
  | normal=>obtain⟨b,d,m',p,q,r,u⟩:=h;exact⟨(b,d),m',p,q,r,u⟩
  | exit j =>
   simp only[Exit.then,Hi] at h ⊢;split at h
   ·rename_i s;rw[Bj s];exact key _ _ h
   ·rename_i s;rw[Bg s];exact h
  | _=>exact h
theorem Bs {c d:Type}{S:c→d→Env}{R:c→d→List Res}{g:List Res}{I:c→d→Nat→Prop}{m:Nat}{τ:Env} (i0:c) (b:d) (m':Nat) (i:I i0 b m') (l:m'<m) (hs:Sub σ (S i0 b++τ)) (k:∀ w,Own M w0 H w→Own M w0 (R i0 b++g) w) :
  WK n (Exit.then (fun h w'=>∃ e f m',I e f m'∧m'<m∧Has n h (S e f++τ)∧Own M w0 (R e f++g) w') Q .normal) σ (Own M w0 H):=fun a w j o=>⟨i0,b,m',i,l,j.sub hs,k w o⟩
theorem Cm {c d:Type}{S:c→d→Env}{R:c→d→List Res}{g:List Res}{J:c→d→Prop}{τ:Env} (i0:c) (b:d) (i:J i0 b) (hs:Sub σ (S i0 b++τ)) (k:∀ w,Own M w0 H w→Own M w0 (R i0 b++g) w) :
  WK n (Exit.then (fun h w'=>∃ e f,J e f∧Has n h (S e f++τ)∧Own M w0 (R e f++g) w') Q .normal) σ (Own M w0 H):=fun a w j l=>⟨i0,b,i,j.sub hs,k w l⟩
theorem Vf {f i:Type}{τ:Env}{d:List Res} (t:Det σ H τ d) (S:f→i→Env) (R:f→i→List Res) (J:f→i→Prop) {x y:Code} (s:Sub σ τ) (p:∀ w,Own M w0 H w→Own M w0 d w)
  (rest:∀ g0 g1,J g0 g1→WK n (y.wp P Q) (S g0 g1++τ) (Own M w0 (R g0 g1++d)))
  (r:WK n (x.wp P (Exit.then (fun j w'=>∃ b c,J b c∧Has n j (S b c++τ)∧Own M w0 (R b c++d) w') Q)) σ (Own M w0 H)):WK n (x.wp P (Exit.then (y.wp P Q) Q)) σ (Own M w0 H) :=
 Ah6 (Γ:=f×i) τ (fun g=>S (g.1) (g.2)) (fun g=>R (g.1) (g.2)) (fun g=>J (g.1) (g.2)) s p (fun g h=>rest (g.1) (g.2) h) fun a w o q=>by
  refine L9 (r a w o q) fun e j w' h=>?_
  cases e with
  | normal=>obtain⟨b,c,k,l,m⟩:=h;exact⟨(b,c),k,l,m⟩
  | _=>exact h
theorem F2 {o p q:Type}{τ:Env}{i:List Res} (G:Det σ H τ i) (S:o→p→q→Env) (R:o→p→q→List Res) (I:o→p→q→Nat→Prop) (J:o→p→q→Prop) (i0:o) (r:p) (i2:q) (x:Nat) {c:Code} (E:I i0 r i2 x) (hs:Sub σ (S i0 r i2++τ)) (A:∀ w,Own M w0 H w→Own M w0 (R i0 r i2++i) w)
  (rest:∀ g0 g1 l,J g0 g1 l→WK n (Q .normal) (S g0 g1 l++τ) (Own M w0 (R g0 g1 l++i)))
  (F:∀ g0 g1 l m,I g0 g1 l m→WK n (c.wp P (Exit.then (fun k w'=>∃ b d f m',I b d f m'∧m'<m∧Has n k (S b d f++τ)∧Own M w0 (R b d f++i) w') (Hi id (Exit.then (fun k w'=>∃ b d f,J b d f∧Has n k (S b d f++τ)∧Own M w0 (R b d f++i) w') Q)))) (S g0 g1 l++τ) (Own M w0 (R g0 g1 l++i))) :
  WK n ((Qc id (Pk c)).wp P Q) σ (Own M w0 H) :=
 N5 (Γ:=o×p×q) τ (fun g=>S (g.1) (g.2.1) (g.2.2)) (fun g=>R (g.1) (g.2.1) (g.2.2)) (fun g m=>I (g.1) (g.2.1) (g.2.2) m) (fun g=>J (g.1) (g.2.1) (g.2.2)) (i0,r,i2) x E hs A (fun g h=>rest (g.1) (g.2.1) (g.2.2) h) fun g m B a w z C=>by
  refine L9 (F (g.1) (g.2.1) (g.2.2) m B a w z C) fun e k w' h=>?_;have key:∀ a w,(fun k w'=>∃ b d f,J b d f∧Has n k (S b d f++τ)∧Own M w0 (R b d f++i) w') a w→(fun k w'=>∃ g':o×p×q,J (g'.1) (g'.2.1) (g'.2.2)∧Has n k (S (g'.1) (g'.2.1) (g'.2.2)++τ)∧Own M w0 (R (g'.1) (g'.2.1) (g'.2.2)++i) w') a w:=fun a w ⟨b,d,f,s,t,u⟩=>⟨(b,d,f),s,t,u⟩
  cases e with
  | normal=>obtain⟨b,d,f,m',s,t,u,y⟩:=h;exact⟨(b,d,f),m',s,t,u,y⟩
  | exit j =>
   simp only[Exit.then,Hi] at h ⊢;split at h
   ·rename_i v;rw[Bj v];exact key _ _ h
   ·rename_i v;rw[Bg v];exact h
  | _=>exact h
theorem Ek {c d e:Type}{S:c→d→e→Env}{R:c→d→e→List Res}{i:List Res}{I:c→d→e→Nat→Prop}{m:Nat}{τ:Env} (i0:c) (b:d) (i2:e) (m':Nat) (k:I i0 b i2 m') (p:m'<m) (hs:Sub σ (S i0 b i2++τ)) (o:∀ w,Own M w0 H w→Own M w0 (R i0 b i2++i) w) :
  WK n (Exit.then (fun j w'=>∃ f g h m',I f g h m'∧m'<m∧Has n j (S f g h++τ)∧Own M w0 (R f g h++i) w') Q .normal) σ (Own M w0 H):=fun a w l q=>⟨i0,b,i2,m',k,p,l.sub hs,o w q⟩
theorem Jj {c d e:Type}{S:c→d→e→Env}{R:c→d→e→List Res}{i:List Res}{J:c→d→e→Prop}{τ:Env} (i0:c) (b:d) (i2:e) (k:J i0 b i2) (hs:Sub σ (S i0 b i2++τ)) (m:∀ w,Own M w0 H w→Own M w0 (R i0 b i2++i) w) :
  WK n (Exit.then (fun j w'=>∃ f g h,J f g h∧Has n j (S f g h++τ)∧Own M w0 (R f g h++i) w') Q .normal) σ (Own M w0 H):=fun a w l o=>⟨i0,b,i2,k,l.sub hs,m w o⟩
theorem Kh {p q r s:Type}{τ:Env}{k:List Res} (L:Det σ H τ k) (S:p→q→r→s→Env) (R:p→q→r→s→List Res) (I:p→q→r→s→Nat→Prop) (J:p→q→r→s→Prop) (i0:p) (t:q) (i2:r) (i3:s) (z:Nat) {c:Code} (G:I i0 t i2 i3 z) (hs:Sub σ (S i0 t i2 i3++τ)) (C:∀ w,Own M w0 H w→Own M w0 (R i0 t i2 i3++k) w)
  (rest:∀ g0 g1 o g3,J g0 g1 o g3→WK n (Q .normal) (S g0 g1 o g3++τ) (Own M w0 (R g0 g1 o g3++k)))
  (K:∀ g0 g1 o g3 m,I g0 g1 o g3 m→WK n (c.wp P (Exit.then (fun l w'=>∃ b d f i m',I b d f i m'∧m'<m∧Has n l (S b d f i++τ)∧Own M w0 (R b d f i++k) w') (Hi id (Exit.then (fun l w'=>∃ b d f i,J b d f i∧Has n l (S b d f i++τ)∧Own M w0 (R b d f i++k) w') Q)))) (S g0 g1 o g3++τ) (Own M w0 (R g0 g1 o g3++k))) :
  WK n ((Qc id (Pk c)).wp P Q) σ (Own M w0 H) :=
 N5 (Γ:=p×q×r×s) τ (fun g=>S (g.1) (g.2.1) (g.2.2.1) (g.2.2.2)) (fun g=>R (g.1) (g.2.1) (g.2.2.1) (g.2.2.2)) (fun g m=>I (g.1) (g.2.1) (g.2.2.1) (g.2.2.2) m) (fun g=>J (g.1) (g.2.1) (g.2.2.1) (g.2.2.2)) (i0,t,i2,i3) z G hs C (fun g h=>rest (g.1) (g.2.1) (g.2.2.1) (g.2.2.2) h) fun g m E a w B F=>by
  refine L9 (K (g.1) (g.2.1) (g.2.2.1) (g.2.2.2) m E a w B F) fun e l w' h=>?_;have key:∀ a w,(fun l w'=>∃ b d f i,J b d f i∧Has n l (S b d f i++τ)∧Own M w0 (R b d f i++k) w') a w→(fun l w'=>∃ g':p×q×r×s,J (g'.1) (g'.2.1) (g'.2.2.1) (g'.2.2.2)∧Has n l (S (g'.1) (g'.2.1) (g'.2.2.1) (g'.2.2.2)++τ)∧Own M w0 (R (g'.1) (g'.2.1) (g'.2.2.1) (g'.2.2.2)++k) w') a w:=fun a w ⟨b,d,f,i,u,v,x⟩=>⟨(b,d,f,i),u,v,x⟩
  cases e with
  | normal=>obtain⟨b,d,f,i,m',u,v,x,A⟩:=h;exact⟨(b,d,f,i),m',u,v,x,A⟩
  | exit j =>
   simp only[Exit.then,Hi] at h ⊢;split at h
   ·rename_i y;rw[Bj y];exact key _ _ h
   ·rename_i y;rw[Bg y];exact h
  | _=>exact h
theorem F1 {c d e f:Type}{S:c→d→e→f→Env}{R:c→d→e→f→List Res}{k:List Res}{I:c→d→e→f→Nat→Prop}{m:Nat}{τ:Env} (i0:c) (b:d) (i2:e) (i3:f) (m':Nat) (o:I i0 b i2 i3 m') (r:m'<m) (hs:Sub σ (S i0 b i2 i3++τ)) (q:∀ w,Own M w0 H w→Own M w0 (R i0 b i2 i3++k) w) :
  WK n (Exit.then (fun l w'=>∃ g h i j m',I g h i j m'∧m'<m∧Has n l (S g h i j++τ)∧Own M w0 (R g h i j++k) w') Q .normal) σ (Own M w0 H):=fun a w p s=>⟨i0,b,i2,i3,m',o,r,p.sub hs,q w s⟩
theorem Mw {c d e f:Type}{S:c→d→e→f→Env}{R:c→d→e→f→List Res}{k:List Res}{J:c→d→e→f→Prop}{τ:Env} (i0:c) (b:d) (i2:e) (i3:f) (m:J i0 b i2 i3) (hs:Sub σ (S i0 b i2 i3++τ)) (p:∀ w,Own M w0 H w→Own M w0 (R i0 b i2 i3++k) w) :
  WK n (Exit.then (fun l w'=>∃ g h i j,J g h i j∧Has n l (S g h i j++τ)∧Own M w0 (R g h i j++k) w') Q .normal) σ (Own M w0 H):=fun a w o q=>⟨i0,b,i2,i3,m,o.sub hs,p w q⟩
theorem Aw2 {j k l m:Type}{τ:Env}{i:List Res} (B:Det σ H τ i) (S:j→k→l→m→Env) (R:j→k→l→m→List Res) (J:j→k→l→m→Prop) {x y:Code} (A:Sub σ τ) (u:∀ w,Own M w0 H w→Own M w0 i w)
  (rest:∀ g0 g1 o g3,J g0 g1 o g3→WK n (y.wp P Q) (S g0 g1 o g3++τ) (Own M w0 (R g0 g1 o g3++i)))
  (z:WK n (x.wp P (Exit.then (fun p w'=>∃ b c d f,J b c d f∧Has n p (S b c d f++τ)∧Own M w0 (R b c d f++i) w') Q)) σ (Own M w0 H)):WK n (x.wp P (Exit.then (y.wp P Q) Q)) σ (Own M w0 H) :=
 Ah6 (Γ:=j×k×l×m) τ (fun g=>S (g.1) (g.2.1) (g.2.2.1) (g.2.2.2)) (fun g=>R (g.1) (g.2.1) (g.2.2.1) (g.2.2.2)) (fun g=>J (g.1) (g.2.1) (g.2.2.1) (g.2.2.2)) A u (fun g h=>rest (g.1) (g.2.1) (g.2.2.1) (g.2.2.2) h) fun a w t v=>by
  refine L9 (z a w t v) fun e p w' h=>?_
  cases e with
  | normal=>obtain⟨b,c,d,f,q,r,s⟩:=h;exact⟨(b,c,d,f),q,r,s⟩
  | _=>exact h
theorem O6 {q r s t u:Type}{τ:Env}{l:List Res} (O:Det σ H τ l) (S:q→r→s→t→u→Env) (R:q→r→s→t→u→List Res) (I:q→r→s→t→u→Nat→Prop) (J:q→r→s→t→u→Prop) (i0:q) (v:r) (i2:s) (i3:t) (i4:u) (B:Nat) {c:Code} (L:I i0 v i2 i3 i4 B) (hs:Sub σ (S i0 v i2 i3 i4++τ)) (F:∀ w,Own M w0 H w→Own M w0 (R i0 v i2 i3 i4++l) w)
  (rest:∀ g0 g1 p g3 g4,J g0 g1 p g3 g4→WK n (Q .normal) (S g0 g1 p g3 g4++τ) (Own M w0 (R g0 g1 p g3 g4++l)))
  (N:∀ g0 g1 p g3 g4 m,I g0 g1 p g3 g4 m→WK n (c.wp P (Exit.then (fun o w'=>∃ b d f i k m',I b d f i k m'∧m'<m∧Has n o (S b d f i k++τ)∧Own M w0 (R b d f i k++l) w') (Hi id (Exit.then (fun o w'=>∃ b d f i k,J b d f i k∧Has n o (S b d f i k++τ)∧Own M w0 (R b d f i k++l) w') Q)))) (S g0 g1 p g3 g4++τ) (Own M w0 (R g0 g1 p g3 g4++l))) :
  WK n ((Qc id (Pk c)).wp P Q) σ (Own M w0 H) :=
 N5 (Γ:=q×r×s×t×u) τ (fun g=>S (g.1) (g.2.1) (g.2.2.1) (g.2.2.2.1) (g.2.2.2.2)) (fun g=>R (g.1) (g.2.1) (g.2.2.1) (g.2.2.2.1) (g.2.2.2.2)) (fun g m=>I (g.1) (g.2.1) (g.2.2.1) (g.2.2.2.1) (g.2.2.2.2) m) (fun g=>J (g.1) (g.2.1) (g.2.2.1) (g.2.2.2.1) (g.2.2.2.2)) (i0,v,i2,i3,i4) B L hs F (fun g h=>rest (g.1) (g.2.1) (g.2.2.1) (g.2.2.2.1) (g.2.2.2.2) h) fun g m G a w E K=>by
  refine L9 (N (g.1) (g.2.1) (g.2.2.1) (g.2.2.2.1) (g.2.2.2.2) m G a w E K) fun e o w' h=>?_;have key:∀ a w,(fun o w'=>∃ b d f i k,J b d f i k∧Has n o (S b d f i k++τ)∧Own M w0 (R b d f i k++l) w') a w→(fun o w'=>∃ g':q×r×s×t×u,J (g'.1) (g'.2.1) (g'.2.2.1) (g'.2.2.2.1) (g'.2.2.2.2)∧Has n o (S (g'.1) (g'.2.1) (g'.2.2.1) (g'.2.2.2.1) (g'.2.2.2.2)++τ)∧Own M w0 (R (g'.1) (g'.2.1) (g'.2.2.1) (g'.2.2.2.1) (g'.2.2.2.2)++l) w') a w:=fun a w ⟨b,d,f,i,k,x,y,z⟩=>⟨(b,d,f,i,k),x,y,z⟩
  cases e with
  | normal=>obtain⟨b,d,f,i,k,m',x,y,z,C⟩:=h;exact⟨(b,d,f,i,k),m',x,y,z,C⟩
  | exit j =>
   simp only[Exit.then,Hi] at h ⊢;split at h
   ·rename_i A;rw[Bj A];exact key _ _ h
   ·rename_i A;rw[Bg A];exact h
  | _=>exact h
theorem O5 {c d e f g:Type}{S:c→d→e→f→g→Env}{R:c→d→e→f→g→List Res}{o:List Res}{I:c→d→e→f→g→Nat→Prop}{m:Nat}{τ:Env} (i0:c) (b:d) (i2:e) (i3:f) (i4:g) (m':Nat) (q:I i0 b i2 i3 i4 m') (t:m'<m) (hs:Sub σ (S i0 b i2 i3 i4++τ)) (s:∀ w,Own M w0 H w→Own M w0 (R i0 b i2 i3 i4++o) w) :
  WK n (Exit.then (fun p w'=>∃ h i j k l m',I h i j k l m'∧m'<m∧Has n p (S h i j k l++τ)∧Own M w0 (R h i j k l++o) w') Q .normal) σ (Own M w0 H):=fun a w r u=>⟨i0,b,i2,i3,i4,m',q,t,r.sub hs,s w u⟩
theorem Tm {c d e f g:Type}{S:c→d→e→f→g→Env}{R:c→d→e→f→g→List Res}{m:List Res}{J:c→d→e→f→g→Prop}{τ:Env} (i0:c) (b:d) (i2:e) (i3:f) (i4:g) (p:J i0 b i2 i3 i4) (hs:Sub σ (S i0 b i2 i3 i4++τ)) (r:∀ w,Own M w0 H w→Own M w0 (R i0 b i2 i3 i4++m) w) :
  WK n (Exit.then (fun o w'=>∃ h i j k l,J h i j k l∧Has n o (S h i j k l++τ)∧Own M w0 (R h i j k l++m) w') Q .normal) σ (Own M w0 H):=fun a w q s=>⟨i0,b,i2,i3,i4,p,q.sub hs,r w s⟩
theorem Aw4 {s t u v x y:Type}{τ:Env}{o:List Res} (V:Det σ H τ o) (S:s→t→u→v→x→y→Env) (R:s→t→u→v→x→y→List Res) (I:s→t→u→v→x→y→Nat→Prop) (J:s→t→u→v→x→y→Prop) (i0:s) (z:t) (i2:u) (i3:v) (i4:x) (i5:y) (F:Nat) {c:Code} (T:I i0 z i2 i3 i4 i5 F) (hs:Sub σ (S i0 z i2 i3 i4 i5++τ)) (L:∀ w,Own M w0 H w→Own M w0 (R i0 z i2 i3 i4 i5++o) w)
  (rest:∀ g0 g1 q g3 g4 r,J g0 g1 q g3 g4 r→WK n (Q .normal) (S g0 g1 q g3 g4 r++τ) (Own M w0 (R g0 g1 q g3 g4 r++o)))
  (U:∀ g0 g1 q g3 g4 r m,I g0 g1 q g3 g4 r m→WK n (c.wp P (Exit.then (fun p w'=>∃ b d f i k l m',I b d f i k l m'∧m'<m∧Has n p (S b d f i k l++τ)∧Own M w0 (R b d f i k l++o) w') (Hi id (Exit.then (fun p w'=>∃ b d f i k l,J b d f i k l∧Has n p (S b d f i k l++τ)∧Own M w0 (R b d f i k l++o) w') Q)))) (S g0 g1 q g3 g4 r++τ) (Own M w0 (R g0 g1 q g3 g4 r++o))) :
  WK n ((Qc id (Pk c)).wp P Q) σ (Own M w0 H) :=
 N5 (Γ:=s×t×u×v×x×y) τ (fun g=>S (g.1) (g.2.1) (g.2.2.1) (g.2.2.2.1) (g.2.2.2.2.1) (g.2.2.2.2.2)) (fun g=>R (g.1) (g.2.1) (g.2.2.1) (g.2.2.2.1) (g.2.2.2.2.1) (g.2.2.2.2.2)) (fun g m=>I (g.1) (g.2.1) (g.2.2.1) (g.2.2.2.1) (g.2.2.2.2.1) (g.2.2.2.2.2) m) (fun g=>J (g.1) (g.2.1) (g.2.2.1) (g.2.2.2.1) (g.2.2.2.2.1) (g.2.2.2.2.2)) (i0,z,i2,i3,i4,i5) F T hs L (fun g h=>rest (g.1) (g.2.1) (g.2.2.1) (g.2.2.2.1) (g.2.2.2.2.1) (g.2.2.2.2.2) h) fun g m N a w K O=>by
  refine L9 (U (g.1) (g.2.1) (g.2.2.1) (g.2.2.2.1) (g.2.2.2.2.1) (g.2.2.2.2.2) m N a w K O) fun e p w' h=>?_;have key:∀ a w,(fun p w'=>∃ b d f i k l,J b d f i k l∧Has n p (S b d f i k l++τ)∧Own M w0 (R b d f i k l++o) w') a w→(fun p w'=>∃ g':s×t×u×v×x×y,J (g'.1) (g'.2.1) (g'.2.2.1) (g'.2.2.2.1) (g'.2.2.2.2.1) (g'.2.2.2.2.2)∧Has n p (S (g'.1) (g'.2.1) (g'.2.2.1) (g'.2.2.2.1) (g'.2.2.2.2.1) (g'.2.2.2.2.2)++τ)∧Own M w0 (R (g'.1) (g'.2.1) (g'.2.2.1) (g'.2.2.2.1) (g'.2.2.2.2.1) (g'.2.2.2.2.2)++o) w') a w:=fun a w ⟨b,d,f,i,k,l,A,B,C⟩=>⟨(b,d,f,i,k,l),A,B,C⟩
  cases e with
  | normal=>obtain⟨b,d,f,i,k,l,m',A,B,C,G⟩:=h;exact⟨(b,d,f,i,k,l),m',A,B,C,G⟩
  | exit j =>
   simp only[Exit.then,Hi] at h ⊢;split at h
   ·rename_i E;rw[Bj E];exact key _ _ h
   ·rename_i E;rw[Bg E];exact h
  | _=>exact h
theorem Ak1 {c d e f g h:Type}{S:c→d→e→f→g→h→Env}{R:c→d→e→f→g→h→List Res}{q:List Res}{I:c→d→e→f→g→h→Nat→Prop}{m:Nat}{τ:Env} (i0:c) (b:d) (i2:e) (i3:f) (i4:g) (i5:h) (m':Nat) (s:I i0 b i2 i3 i4 i5 m') (v:m'<m) (hs:Sub σ (S i0 b i2 i3 i4 i5++τ)) (u:∀ w,Own M w0 H w→Own M w0 (R i0 b i2 i3 i4 i5++q) w) :
  WK n (Exit.then (fun r w'=>∃ i j k l o p m',I i j k l o p m'∧m'<m∧Has n r (S i j k l o p++τ)∧Own M w0 (R i j k l o p++q) w') Q .normal) σ (Own M w0 H):=fun a w t x=>⟨i0,b,i2,i3,i4,i5,m',s,v,t.sub hs,u w x⟩
theorem A3v {c d e f g h:Type}{S:c→d→e→f→g→h→Env}{R:c→d→e→f→g→h→List Res}{p:List Res}{J:c→d→e→f→g→h→Prop}{τ:Env} (i0:c) (b:d) (i2:e) (i3:f) (i4:g) (i5:h) (r:J i0 b i2 i3 i4 i5) (hs:Sub σ (S i0 b i2 i3 i4 i5++τ)) (t:∀ w,Own M w0 H w→Own M w0 (R i0 b i2 i3 i4 i5++p) w) :
  WK n (Exit.then (fun q w'=>∃ i j k l m o,J i j k l m o∧Has n q (S i j k l m o++τ)∧Own M w0 (R i j k l m o++p) w') Q .normal) σ (Own M w0 H):=fun a w s u=>⟨i0,b,i2,i3,i4,i5,r,s.sub hs,t w u⟩
theorem Ak4 {t u v x y z A:Type}{τ:Env}{p:List Res} (Y:Det σ H τ p) (S:t→u→v→x→y→z→A→Env) (R:t→u→v→x→y→z→A→List Res) (I:t→u→v→x→y→z→A→Nat→Prop) (J:t→u→v→x→y→z→A→Prop) (i0:t) (B:u) (i2:v) (i3:x) (i4:y) (i5:z) (C:A) (L:Nat) {c:Code} (W:I i0 B i2 i3 i4 i5 C L) (hs:Sub σ (S i0 B i2 i3 i4 i5 C++τ)) (T:∀ w,Own M w0 H w→Own M w0 (R i0 B i2 i3 i4 i5 C++p) w)
  (rest:∀ g0 g1 r g3 g4 s g6,J g0 g1 r g3 g4 s g6→WK n (Q .normal) (S g0 g1 r g3 g4 s g6++τ) (Own M w0 (R g0 g1 r g3 g4 s g6++p)))
  (X:∀ g0 g1 r g3 g4 s g6 m,I g0 g1 r g3 g4 s g6 m→WK n (c.wp P (Exit.then (fun q w'=>∃ b d f i k l o m',I b d f i k l o m'∧m'<m∧Has n q (S b d f i k l o++τ)∧Own M w0 (R b d f i k l o++p) w') (Hi id (Exit.then (fun q w'=>∃ b d f i k l o,J b d f i k l o∧Has n q (S b d f i k l o++τ)∧Own M w0 (R b d f i k l o++p) w') Q)))) (S g0 g1 r g3 g4 s g6++τ) (Own M w0 (R g0 g1 r g3 g4 s g6++p))) :
  WK n ((Qc id (Pk c)).wp P Q) σ (Own M w0 H) :=
 N5 (Γ:=t×u×v×x×y×z×A) τ (fun g=>S (g.1) (g.2.1) (g.2.2.1) (g.2.2.2.1) (g.2.2.2.2.1) (g.2.2.2.2.2.1) (g.2.2.2.2.2.2)) (fun g=>R (g.1) (g.2.1) (g.2.2.1) (g.2.2.2.1) (g.2.2.2.2.1) (g.2.2.2.2.2.1) (g.2.2.2.2.2.2)) (fun g m=>I (g.1) (g.2.1) (g.2.2.1) (g.2.2.2.1) (g.2.2.2.2.1) (g.2.2.2.2.2.1) (g.2.2.2.2.2.2) m) (fun g=>J (g.1) (g.2.1) (g.2.2.1) (g.2.2.2.1) (g.2.2.2.2.1) (g.2.2.2.2.2.1) (g.2.2.2.2.2.2)) (i0,B,i2,i3,i4,i5,C) L W hs T (fun g h=>rest (g.1) (g.2.1) (g.2.2.1) (g.2.2.2.1) (g.2.2.2.2.1) (g.2.2.2.2.2.1) (g.2.2.2.2.2.2) h) fun g m U a w O V=>by
  refine L9 (X (g.1) (g.2.1) (g.2.2.1) (g.2.2.2.1) (g.2.2.2.2.1) (g.2.2.2.2.2.1) (g.2.2.2.2.2.2) m U a w O V) fun e q w' h=>?_;have key:∀ a w,(fun q w'=>∃ b d f i k l o,J b d f i k l o∧Has n q (S b d f i k l o++τ)∧Own M w0 (R b d f i k l o++p) w') a w→(fun q w'=>∃ g':t×u×v×x×y×z×A,J (g'.1) (g'.2.1) (g'.2.2.1) (g'.2.2.2.1) (g'.2.2.2.2.1) (g'.2.2.2.2.2.1) (g'.2.2.2.2.2.2)∧Has n q (S (g'.1) (g'.2.1) (g'.2.2.1) (g'.2.2.2.1) (g'.2.2.2.2.1) (g'.2.2.2.2.2.1) (g'.2.2.2.2.2.2)++τ)∧Own M w0 (R (g'.1) (g'.2.1) (g'.2.2.1) (g'.2.2.2.1) (g'.2.2.2.2.1) (g'.2.2.2.2.2.1) (g'.2.2.2.2.2.2)++p) w') a w:=fun a w ⟨b,d,f,i,k,l,o,E,F,G⟩=>⟨(b,d,f,i,k,l,o),E,F,G⟩
  cases e with
  | normal=>obtain⟨b,d,f,i,k,l,o,m',E,F,G,N⟩:=h;exact⟨(b,d,f,i,k,l,o),m',E,F,G,N⟩
  | exit j =>
   simp only[Exit.then,Hi] at h ⊢;split at h
   ·rename_i K;rw[Bj K];exact key _ _ h
   ·rename_i K;rw[Bg K];exact h
  | _=>exact h
theorem Qh {d e f g h i j:Type}{S:d→e→f→g→h→i→j→Env}{R:d→e→f→g→h→i→j→List Res}{t:List Res}{I:d→e→f→g→h→i→j→Nat→Prop}{m:Nat}{τ:Env} (i0:d) (b:e) (i2:f) (i3:g) (i4:h) (i5:i) (c:j) (m':Nat) (v:I i0 b i2 i3 i4 i5 c m') (z:m'<m) (hs:Sub σ (S i0 b i2 i3 i4 i5 c++τ)) (y:∀ w,Own M w0 H w→Own M w0 (R i0 b i2 i3 i4 i5 c++t) w) :
  WK n (Exit.then (fun u w'=>∃ k l o p q r s m',I k l o p q r s m'∧m'<m∧Has n u (S k l o p q r s++τ)∧Own M w0 (R k l o p q r s++t) w') Q .normal) σ (Own M w0 H):=fun a w x A=>⟨i0,b,i2,i3,i4,i5,c,m',v,z,x.sub hs,y w A⟩
theorem Auw {d e f g h i j:Type}{S:d→e→f→g→h→i→j→Env}{R:d→e→f→g→h→i→j→List Res}{s:List Res}{J:d→e→f→g→h→i→j→Prop}{τ:Env} (i0:d) (b:e) (i2:f) (i3:g) (i4:h) (i5:i) (c:j) (u:J i0 b i2 i3 i4 i5 c) (hs:Sub σ (S i0 b i2 i3 i4 i5 c++τ)) (x:∀ w,Own M w0 H w→Own M w0 (R i0 b i2 i3 i4 i5 c++s) w) :
  WK n (Exit.then (fun t w'=>∃ k l m o p q r,J k l m o p q r∧Has n t (S k l m o p q r++τ)∧Own M w0 (R k l m o p q r++s) w') Q .normal) σ (Own M w0 H):=fun a w v y=>⟨i0,b,i2,i3,i4,i5,c,u,v.sub hs,x w y⟩
theorem Ak3 {v x y z A B C E:Type}{τ:Env}{q:List Res} (a3:Det σ H τ q) (S:v→x→y→z→A→B→C→E→Env) (R:v→x→y→z→A→B→C→E→List Res) (I:v→x→y→z→A→B→C→E→Nat→Prop) (J:v→x→y→z→A→B→C→E→Prop) (i0:v) (F:x) (i2:y) (i3:z) (i4:A) (i5:B) (G:C) (K:E) (U:Nat) {c:Code} (a1:I i0 F i2 i3 i4 i5 G K U) (hs:Sub σ (S i0 F i2 i3 i4 i5 G K++τ)) (X:∀ w,Own M w0 H w→Own M w0 (R i0 F i2 i3 i4 i5 G K++q) w)
  (rest:∀ g0 g1 s g3 g4 t g6 u,J g0 g1 s g3 g4 t g6 u→WK n (Q .normal) (S g0 g1 s g3 g4 t g6 u++τ) (Own M w0 (R g0 g1 s g3 g4 t g6 u++q)))
  (a2:∀ g0 g1 s g3 g4 t g6 u m,I g0 g1 s g3 g4 t g6 u m→WK n (c.wp P (Exit.then (fun r w'=>∃ b d f i k l o p m',I b d f i k l o p m'∧m'<m∧Has n r (S b d f i k l o p++τ)∧Own M w0 (R b d f i k l o p++q) w') (Hi id (Exit.then (fun r w'=>∃ b d f i k l o p,J b d f i k l o p∧Has n r (S b d f i k l o p++τ)∧Own M w0 (R b d f i k l o p++q) w') Q)))) (S g0 g1 s g3 g4 t g6 u++τ) (Own M w0 (R g0 g1 s g3 g4 t g6 u++q))) :
  WK n ((Qc id (Pk c)).wp P Q) σ (Own M w0 H) :=
 N5 (Γ:=v×x×y×z×A×B×C×E) τ (fun g=>S (g.1) (g.2.1) (g.2.2.1) (g.2.2.2.1) (g.2.2.2.2.1) (g.2.2.2.2.2.1) (g.2.2.2.2.2.2.1) (g.2.2.2.2.2.2.2)) (fun g=>R (g.1) (g.2.1) (g.2.2.1) (g.2.2.2.1) (g.2.2.2.2.1) (g.2.2.2.2.2.1) (g.2.2.2.2.2.2.1) (g.2.2.2.2.2.2.2)) (fun g m=>I (g.1) (g.2.1) (g.2.2.1) (g.2.2.2.1) (g.2.2.2.2.1) (g.2.2.2.2.2.1) (g.2.2.2.2.2.2.1) (g.2.2.2.2.2.2.2) m) (fun g=>J (g.1) (g.2.1) (g.2.2.1) (g.2.2.2.1) (g.2.2.2.2.1) (g.2.2.2.2.2.1) (g.2.2.2.2.2.2.1) (g.2.2.2.2.2.2.2)) (i0,F,i2,i3,i4,i5,G,K) U a1 hs X (fun g h=>rest (g.1) (g.2.1) (g.2.2.1) (g.2.2.2.1) (g.2.2.2.2.1) (g.2.2.2.2.2.1) (g.2.2.2.2.2.2.1) (g.2.2.2.2.2.2.2) h) fun g m Y a w W a0=>by
  refine L9 (a2 (g.1) (g.2.1) (g.2.2.1) (g.2.2.2.1) (g.2.2.2.2.1) (g.2.2.2.2.2.1) (g.2.2.2.2.2.2.1) (g.2.2.2.2.2.2.2) m Y a w W a0) fun e r w' h=>?_;have key:∀ a w,(fun r w'=>∃ b d f i k l o p,J b d f i k l o p∧Has n r (S b d f i k l o p++τ)∧Own M w0 (R b d f i k l o p++q) w') a w→(fun r w'=>∃ g':v×x×y×z×A×B×C×E,J (g'.1) (g'.2.1) (g'.2.2.1) (g'.2.2.2.1) (g'.2.2.2.2.1) (g'.2.2.2.2.2.1) (g'.2.2.2.2.2.2.1) (g'.2.2.2.2.2.2.2)∧Has n r (S (g'.1) (g'.2.1) (g'.2.2.1) (g'.2.2.2.1) (g'.2.2.2.2.1) (g'.2.2.2.2.2.1) (g'.2.2.2.2.2.2.1) (g'.2.2.2.2.2.2.2)++τ)∧Own M w0 (R (g'.1) (g'.2.1) (g'.2.2.1) (g'.2.2.2.1) (g'.2.2.2.2.1) (g'.2.2.2.2.2.1) (g'.2.2.2.2.2.2.1) (g'.2.2.2.2.2.2.2)++q) w') a w:=fun a w ⟨b,d,f,i,k,l,o,p,L,N,O⟩=>⟨(b,d,f,i,k,l,o,p),L,N,O⟩
  cases e with
  | normal=>obtain⟨b,d,f,i,k,l,o,p,m',L,N,O,V⟩:=h;exact⟨(b,d,f,i,k,l,o,p),m',L,N,O,V⟩
  | exit j =>
   simp only[Exit.then,Hi] at h ⊢;split at h
   ·rename_i T;rw[Bj T];exact key _ _ h
   ·rename_i T;rw[Bg T];exact h
  | _=>exact h
theorem Ak0 {e f g h i j k l:Type}{S:e→f→g→h→i→j→k→l→Env}{R:e→f→g→h→i→j→k→l→List Res}{x:List Res}{I:e→f→g→h→i→j→k→l→Nat→Prop}{m:Nat}{τ:Env} (i0:e) (b:f) (i2:g) (i3:h) (i4:i) (i5:j) (c:k) (d:l) (m':Nat) (z:I i0 b i2 i3 i4 i5 c d m') (C:m'<m) (hs:Sub σ (S i0 b i2 i3 i4 i5 c d++τ)) (B:∀ w,Own M w0 H w→Own M w0 (R i0 b i2 i3 i4 i5 c d++x) w) :
  WK n (Exit.then (fun y w'=>∃ o p q r s t u v m',I o p q r s t u v m'∧m'<m∧Has n y (S o p q r s t u v++τ)∧Own M w0 (R o p q r s t u v++x) w') Q .normal) σ (Own M w0 H):=fun a w A E=>⟨i0,b,i2,i3,i4,i5,c,d,m',z,C,A.sub hs,B w E⟩
theorem Auv {e f g h i j k l:Type}{S:e→f→g→h→i→j→k→l→Env}{R:e→f→g→h→i→j→k→l→List Res}{v:List Res}{J:e→f→g→h→i→j→k→l→Prop}{τ:Env} (i0:e) (b:f) (i2:g) (i3:h) (i4:i) (i5:j) (c:k) (d:l) (y:J i0 b i2 i3 i4 i5 c d) (hs:Sub σ (S i0 b i2 i3 i4 i5 c d++τ)) (A:∀ w,Own M w0 H w→Own M w0 (R i0 b i2 i3 i4 i5 c d++v) w) :
  WK n (Exit.then (fun x w'=>∃ m o p q r s t u,J m o p q r s t u∧Has n x (S m o p q r s t u++τ)∧Own M w0 (R m o p q r s t u++v) w') Q .normal) σ (Own M w0 H):=fun a w z B=>⟨i0,b,i2,i3,i4,i5,c,d,y,z.sub hs,A w B⟩
theorem Ak2 {y z A B C E F G K:Type}{τ:Env}{r:List Res} (a7:Det σ H τ r) (S:y→z→A→B→C→E→F→G→K→Env) (R:y→z→A→B→C→E→F→G→K→List Res) (I:y→z→A→B→C→E→F→G→K→Nat→Prop) (J:y→z→A→B→C→E→F→G→K→Prop) (i0:y) (L:z) (i2:A) (i3:B) (i4:C) (i5:E) (N:F) (O:G) (T:K) (Y:Nat) {c:Code} (a5:I i0 L i2 i3 i4 i5 N O T Y) (hs:Sub σ (S i0 L i2 i3 i4 i5 N O T++τ)) (a2:∀ w,Own M w0 H w→Own M w0 (R i0 L i2 i3 i4 i5 N O T++r) w)
  (rest:∀ g0 g1 t g3 g4 u g6 v x,J g0 g1 t g3 g4 u g6 v x→WK n (Q .normal) (S g0 g1 t g3 g4 u g6 v x++τ) (Own M w0 (R g0 g1 t g3 g4 u g6 v x++r)))
  (a6:∀ g0 g1 t g3 g4 u g6 v x m,I g0 g1 t g3 g4 u g6 v x m→WK n (c.wp P (Exit.then (fun s w'=>∃ b d f i k l o p q m',I b d f i k l o p q m'∧m'<m∧Has n s (S b d f i k l o p q++τ)∧Own M w0 (R b d f i k l o p q++r) w') (Hi id (Exit.then (fun s w'=>∃ b d f i k l o p q,J b d f i k l o p q∧Has n s (S b d f i k l o p q++τ)∧Own M w0 (R b d f i k l o p q++r) w') Q)))) (S g0 g1 t g3 g4 u g6 v x++τ) (Own M w0 (R g0 g1 t g3 g4 u g6 v x++r))) :
  WK n ((Qc id (Pk c)).wp P Q) σ (Own M w0 H) :=
 N5 (Γ:=y×z×A×B×C×E×F×G×K) τ (fun g=>S (g.1) (g.2.1) (g.2.2.1) (g.2.2.2.1) (g.2.2.2.2.1) (g.2.2.2.2.2.1) (g.2.2.2.2.2.2.1) (g.2.2.2.2.2.2.2.1) (g.2.2.2.2.2.2.2.2)) (fun g=>R (g.1) (g.2.1) (g.2.2.1) (g.2.2.2.1) (g.2.2.2.2.1) (g.2.2.2.2.2.1) (g.2.2.2.2.2.2.1) (g.2.2.2.2.2.2.2.1) (g.2.2.2.2.2.2.2.2)) (fun g m=>I (g.1) (g.2.1) (g.2.2.1) (g.2.2.2.1) (g.2.2.2.2.1) (g.2.2.2.2.2.1) (g.2.2.2.2.2.2.1) (g.2.2.2.2.2.2.2.1) (g.2.2.2.2.2.2.2.2) m) (fun g=>J (g.1) (g.2.1) (g.2.2.1) (g.2.2.2.1) (g.2.2.2.2.1) (g.2.2.2.2.2.1) (g.2.2.2.2.2.2.1) (g.2.2.2.2.2.2.2.1) (g.2.2.2.2.2.2.2.2)) (i0,L,i2,i3,i4,i5,N,O,T) Y a5 hs a2 (fun g h=>rest (g.1) (g.2.1) (g.2.2.1) (g.2.2.2.1) (g.2.2.2.2.1) (g.2.2.2.2.2.1) (g.2.2.2.2.2.2.1) (g.2.2.2.2.2.2.2.1) (g.2.2.2.2.2.2.2.2) h) fun g m a3 a w a1 a4=>by
  refine L9 (a6 (g.1) (g.2.1) (g.2.2.1) (g.2.2.2.1) (g.2.2.2.2.1) (g.2.2.2.2.2.1) (g.2.2.2.2.2.2.1) (g.2.2.2.2.2.2.2.1) (g.2.2.2.2.2.2.2.2) m a3 a w a1 a4) fun e s w' h=>?_;have key:∀ a w,(fun s w'=>∃ b d f i k l o p q,J b d f i k l o p q∧Has n s (S b d f i k l o p q++τ)∧Own M w0 (R b d f i k l o p q++r) w') a w→(fun s w'=>∃ g':y×z×A×B×C×E×F×G×K,J (g'.1) (g'.2.1) (g'.2.2.1) (g'.2.2.2.1) (g'.2.2.2.2.1) (g'.2.2.2.2.2.1) (g'.2.2.2.2.2.2.1) (g'.2.2.2.2.2.2.2.1) (g'.2.2.2.2.2.2.2.2)∧Has n s (S (g'.1) (g'.2.1) (g'.2.2.1) (g'.2.2.2.1) (g'.2.2.2.2.1) (g'.2.2.2.2.2.1) (g'.2.2.2.2.2.2.1) (g'.2.2.2.2.2.2.2.1) (g'.2.2.2.2.2.2.2.2)++τ)∧Own M w0 (R (g'.1) (g'.2.1) (g'.2.2.1) (g'.2.2.2.1) (g'.2.2.2.2.1) (g'.2.2.2.2.2.1) (g'.2.2.2.2.2.2.1) (g'.2.2.2.2.2.2.2.1) (g'.2.2.2.2.2.2.2.2)++r) w') a w:=fun a w ⟨b,d,f,i,k,l,o,p,q,U,V,W⟩=>⟨(b,d,f,i,k,l,o,p,q),U,V,W⟩
  cases e with
  | normal=>obtain⟨b,d,f,i,k,l,o,p,q,m',U,V,W,a0⟩:=h;exact⟨(b,d,f,i,k,l,o,p,q),m',U,V,W,a0⟩
  | exit j =>
   simp only[Exit.then,Hi] at h ⊢;split at h
   ·rename_i X;rw[Bj X];exact key _ _ h
   ·rename_i X;rw[Bg X];exact h
  | _=>exact h
theorem Akz {f g h i j k l o p:Type}{S:f→g→h→i→j→k→l→o→p→Env}{R:f→g→h→i→j→k→l→o→p→List Res}{A:List Res}{I:f→g→h→i→j→k→l→o→p→Nat→Prop}{m:Nat}{τ:Env} (i0:f) (b:g) (i2:h) (i3:i) (i4:j) (i5:k) (c:l) (d:o) (e:p) (m':Nat) (C:I i0 b i2 i3 i4 i5 c d e m') (G:m'<m) (hs:Sub σ (S i0 b i2 i3 i4 i5 c d e++τ)) (F:∀ w,Own M w0 H w→Own M w0 (R i0 b i2 i3 i4 i5 c d e++A) w) :
  WK n (Exit.then (fun B w'=>∃ q r s t u v x y z m',I q r s t u v x y z m'∧m'<m∧Has n B (S q r s t u v x y z++τ)∧Own M w0 (R q r s t u v x y z++A) w') Q .normal) σ (Own M w0 H):=fun a w E J=>⟨i0,b,i2,i3,i4,i5,c,d,e,m',C,G,E.sub hs,F w J⟩
theorem Auu {f g h i j k l m o:Type}{S:f→g→h→i→j→k→l→m→o→Env}{R:f→g→h→i→j→k→l→m→o→List Res}{z:List Res}{J:f→g→h→i→j→k→l→m→o→Prop}{τ:Env} (i0:f) (b:g) (i2:h) (i3:i) (i4:j) (i5:k) (c:l) (d:m) (e:o) (B:J i0 b i2 i3 i4 i5 c d e) (hs:Sub σ (S i0 b i2 i3 i4 i5 c d e++τ)) (E:∀ w,Own M w0 H w→Own M w0 (R i0 b i2 i3 i4 i5 c d e++z) w) :
  WK n (Exit.then (fun A w'=>∃ p q r s t u v x y,J p q r s t u v x y∧Has n A (S p q r s t u v x y++τ)∧Own M w0 (R p q r s t u v x y++z) w') Q .normal) σ (Own M w0 H):=fun a w C F=>⟨i0,b,i2,i3,i4,i5,c,d,e,B,C.sub hs,E w F⟩
end
end Go.Rd
end
section
namespace Go.Rd
open Go.RowKit
def bt (n:Int):UInt8:=Qd (n % 256).toNat
theorem Atw (n:Int):IntKind.u8.wrap n=n % 256:=by
 simp[IntKind.wrap,IntKind.bits,IntKind.signed]
theorem A6s (n:Int):((bt n).toNat:Int)=n % 256:=by
 unfold bt;have a:0≤n % 256:=Ro _ Ah;have b:n % 256<256:=Rq _ Ah
 have:(Qd (n % 256).toNat).toNat=(n % 256).toNat:=by
  rw[UInt8.toNat_ofNat'];apply Alp;omega
 rw[this];omega
theorem Ams (n:Int):Value.int .u8 (IntKind.u8.wrap n)=.int .u8 ((bt n).toNat:Int):=by rw[A6s,Atw]
theorem Aju (b:UInt8):Value.int .i64 (IntKind.i64.wrap (b.toNat:Int))=.int .i64 (b.toNat:Int):=by
 have:=UInt8.toNat_lt b;rw[Jl Aa Aa]
theorem A13 {n:Int} (h:IR n):Value.int .i64 (IntKind.i64.wrap n)=.int .i64 n:=by rw[Jl h.1 h.2]
def Su (i j:Int):Int:=IntKind.i64.wrap (K6 64 i &&& K6 64 j).toNat
def bitOr (i j:Int):Int:=IntKind.i64.wrap (K6 64 i ||| K6 64 j).toNat
def A6u (i j:Int):Int:=IntKind.i64.wrap (K6 64 i ^^^ K6 64 j).toNat
def shrD (i j:Int):Int:=i.fdiv (2 ^ (min j.toNat 64))
def shlD (i j:Int):Int:=IntKind.i64.wrap (i * 2 ^ (min j.toNat 64))
def SX (i j n:Int):Prop:=0≤i∧i≤j∧j≤n
instance (i j n:Int):Decidable (SX i j n):=by unfold SX;infer_instance
def SL (l:List UInt8):Prop:=l.length≤9223372036854775807
instance (l:List UInt8):Decidable (SL l):=by unfold SL;infer_instance
def O0 (s:List UInt8):List Al:=[B5 s]
theorem Ad4:∀ s:List UInt8,(O0 s).length=1:=fun _=>rfl
theorem Av0 (ys:List (List UInt8)):∀ u∈ys,∀ c∈O0 u,c.oneCell'=true:=fun n _ c a=>by simp[O0] at a;subst a;rfl
section
variable {P : Bz} {n : Nat} {σ : Env} {C : Ak → Prop} {d : Option Tmp} {T U E D z : TypeId} {pos : String} {after : Array Edge} {gd : Option (Nat × Bool)} {x y lo hi : En} {g g' g'' : Bool} {v : Al} {i j : Int} {a b : List UInt8} {sz m : Nat}
theorem QV.shrD {k':IntKind} (h:σ.ev x=some (g,.int .i64 i)) (e:g=true) (k:σ.ev y=some (g',.int k' j)) (f:g'=true) (c:0≤j):QV P ⟨d,.binOp .shr U x y z,T,pos,after,gd⟩ σ C (.int .i64 (shrD i j)):=Auy h e k f c
theorem QV.shlD {k':IntKind} (h:σ.ev x=some (g,.int .i64 i)) (e:g=true) (k:σ.ev y=some (g',.int k' j)) (f:g'=true) (c:0≤j):QV P ⟨d,.binOp .shl U x y z,T,pos,after,gd⟩ σ C (.int .i64 (shlD i j)):=A3z h e k f c
theorem QV.quo (k:σ.ev x=some (g,.int .i64 i)) (e:g=true) (l:σ.ev y=some (g',.int .i64 j)) (f:g'=true) (c:j≠0) (h:IR (i.tdiv j)):QV P ⟨d,.binOp .quo U x y z,T,pos,after,gd⟩ σ C (.int .i64 (i.tdiv j)) :=
 Adz (A13 h) (A30 k e l f c)
theorem QV.neg (k:σ.ev x=some (g,.int .i64 i)) (h:g=true) (c:IR (-i)):QV P ⟨d,.unOp .neg U x,T,pos,after,gd⟩ σ C (.int .i64 (-i)):=.of_run fun n a f w l=>by
 have e:(0:Int) - i=-i:=Aa;simp[execOp,f.ev k h,Op.unary,Op.intArith,Jl c.1 c.2]
theorem QV.max2 {f:Array TypeId}{k:IntKind} (o:σ.ev x=some (g,.int k i)) (h:g=true) (p:σ.ev y=some (g',.int k j)) (l:g'=true):QV P ⟨d,.call ⟨.builtin .max,#[x,y],f⟩,T,pos,after,gd⟩ σ C (.int k (max i j)):=.of_run fun n a c w q=>by
 have e:(if j>i then j else i)=max i j:=by split <;> omega
 simp[execOp,resolve,invoke,builtin,c.ev o h,c.ev p l,Builtin.max_,Builtin.max2,List.foldlM,e]
def Abt:=@QV.max2
theorem QV.min2 {f:Array TypeId}{k:IntKind} (o:σ.ev x=some (g,.int k i)) (h:g=true) (p:σ.ev y=some (g',.int k j)) (l:g'=true):QV P ⟨d,.call ⟨.builtin .min,#[x,y],f⟩,T,pos,after,gd⟩ σ C (.int k (min i j)):=.of_run fun n a c w q=>by
 have e:(if j<i then j else i)=min i j:=by split <;> omega
 simp[execOp,resolve,invoke,builtin,c.ev o h,c.ev p l,Builtin.min_,Builtin.min2,List.foldlM,e]
theorem Aqn {k k':IntKind}{α:Type}{xs:List α} (c:Je P U E sz) (r:σ.ev x=some (g,v)) (e:g=true) (p:SliceLen v xs.length) (q:σ.ev lo=some (g',.int k i)) (f:g'=true) (o:σ.ev hi=some (g'',.int k' j)) (l:g''=true)
  (h:SX i j (ln xs)):QV P ⟨d,.slice U x (some lo) (some hi) none,T,pos,after,gd⟩ σ C (Np v sz i.toNat j.toNat):=As7 c r e p q f o l h.1 h.2.1 h.2.2
theorem Ox {k':IntKind}{α:Type}{xs:List α} (c:Je P U E sz) (o:σ.ev x=some (g,v)) (e:g=true) (l:SliceLen v xs.length) (k:σ.ev hi=some (g'',.int k' j)) (f:g''=true)
  (h:SX 0 j (ln xs)):QV P ⟨d,.slice U x none (some hi) none,T,pos,after,gd⟩ σ C (Np v sz (0:Int).toNat j.toNat):=Aw8 c o e l k f h.2.1 h.2.2
theorem Ow {k:IntKind}{α:Type}{xs:List α} (c:Je P U E sz) (p:σ.ev x=some (g,v)) (e:g=true) (l:SliceLen v xs.length) (o:σ.ev lo=some (g',.int k i)) (f:g'=true)
  (h:SX i (ln xs) (ln xs)):QV P ⟨d,.slice U x (some lo) none none,T,pos,after,gd⟩ σ C (Np v sz i.toNat (ln xs).toNat):=Aw7 c p e l o f h.1 (show i≤(xs.length:Int) from h.2.1)
theorem Ip {α:Type}{enc:α→List Al}{w:Ak}{v:Al}{i j:Int}{sz:Nat}{xs:List α} (e:Arr w v sz (xs.map enc)) (h:SX i j (ln xs)):Arr w (Np v sz i.toNat j.toNat) sz ((sub xs i j).map enc):=by
 have f:=h.1;have k:=h.2.1;have c:=h.2.2;unfold ln at c;have:=Azs e (l:=i.toNat) (h:=j.toNat) Aa Aa;rwa [show j.toNat - i.toNat=(j - i).toNat from Aa] at this
theorem D4 (h:σ.ev x=some (g,B5 a)) (e:g=true) (k:σ.ev y=some (g',B5 b)) (f:g'=true) (c:SL (a++b)):QV P ⟨d,.binOp .add U x y z,T,pos,after,gd⟩ σ C (B5 (a++b)):=Aw6 h e k f (by unfold SL at c;simpa using c)
theorem Sd (p:σ.ev x=some (g,B5 a)) (l:g=true) (q:σ.ev y=some (g',B5 b)) (o:g'=true):QV P ⟨d,.binOp .neq U x y z,T,pos,after,gd⟩ σ C (.bool (a != b)):=.of_run fun n r c w s=>by
 have e:=c.ev p l;have f:=c.ev q o
 have h:(eqGuard .neq U x y (B5 a) (B5 b)).run P w=.ok () w:=by simp[eqGuard,B5]
 have k:(binOp .neq U (B5 a) (B5 b)).run P w=.ok (.bool (a != b)) w:=by
  unfold B5;rw[binOp_string_neq,Zl,Zl];simp[bne]
 simp only[execOp,e,f,Uk,h,k,Um,T6]
theorem Ki (f:P.underlying U=some .string) (l:σ.ev x=some (g,B5 a)) (k:g=true):QV P ⟨d,.call ⟨.builtin .len,#[x],#[U]⟩,T,pos,after,gd⟩ σ C (.int .i64 (ln a)):=.of_run fun n o h w p=>by
 have c:=h.ev l k
 have e:(N1 a.toArray).size=a.length:=by simp[ByteArray.size]
 simp[execOp,resolve,invoke,builtin,c,B5,Builtin.len_,E5 f,goInt,ln,e]
end
def Agm (place:Nat→Option (Nat×Nat)) (cells:Array Al):List (Nat×List Al)→Option (Array Al)
 | []=>some cells
 | (i,v)::rest =>
  match place i with
  | none=>none
  | some (off,size) =>
   if v.length≠size || off+v.length>cells.size then none
   else Agm place (v.toArray.zipIdx.foldl (fun cs (c,j)=>cs.setIfInBounds (off+j) c) cells) rest
def Ary (P:Bz) (t:TypeId) (c:List (Nat×List Al)):Option (Array Al) :=
 match P.info? t,P.underlying t with
 | some a,some (.array _ e) =>
  match a.zero,P.info? e with
  | some z,some b=>Agm (fun i=>some (i * b.size,b.size)) z.cells c
  | _,_=>none
 | some a,some (.struct fields) =>
  match a.zero,fields.toList.mapM (fun f=>(P.info? f.type).map fun i=>(f.offset,i.size)) with
  | some z,some places=>Agm (places.toArray[·]?) z.cells c
  | _,_=>none
 | _,_=>none
def CellsAll:List Al→List (List Al)→Prop
 | [],[]=>True
 | v::vs,c::cs=>v.cells=c.toArray∧CellsAll vs cs
 | _,_=>False
theorem CellsAll.nil:CellsAll [] []:=trivial
def Ajl:=@CellsAll.nil
theorem CellsAll.cons {v:Al}{c vs:List Al}{cs:List (List Al)} (h:v.cells=c.toArray) (k:CellsAll vs cs):CellsAll (v::vs) (c::cs):=⟨h,k⟩
def P3:=@CellsAll.cons
theorem Aug {place:Nat→Option (Nat×Nat)}:∀ (a:List Nat) {vs:List Al}{css:List (List Al)} (cells:Array Al),CellsAll vs css→Aap place cells (a.zip vs)=Agm place cells (a.zip css)
 | _,[],[],cells,_=>by simp[Aap,Agm]
 | [],_::_,_::_,cells,_=>by simp[Aap,Agm]
 | i::a,v::vs,c::cs,cells,⟨h,k⟩=>by
  simp only[List.zip_cons_cons,Aap,Agm]
  cases place i with
  | none=>rfl
  | some p =>
   obtain⟨off,size⟩:=p;simp only[h,Aq4];rw[Aug a _ k]
theorem A06 {P:Bz}{t:TypeId}{a:List Nat}{vs:List Al}{css:List (List Al)} (h:CellsAll vs css):P.built t (a.zip vs)=Ary P t (a.zip css):=by
 unfold Program.built Ary
 cases P.info? t with
 | none=>rfl
 | some b =>
  cases P.underlying t with
  | none=>rfl
  | some dd=>cases dd <;> first | rfl | (simp only[Aug a _ h];rfl)
theorem Se {P:Bz}{σ:Env}{C:Ak→Prop}{d:Option Tmp}{T U:TypeId}{pos:String}{after:Array Edge}{gd:Option (Nat×Bool)}{ps:List (Nat×En)}{vs cells:List Al}{css:List (List Al)} (c:EvAll σ (ps.map (·.2)) vs) (b:CellsAll vs css) (a:Ary P U ((ps.map (·.1)).zip css)=some cells.toArray) :
  QV P ⟨d,.build U ps.toArray,T,pos,after,gd⟩ σ C (.agg cells.toArray):=QV.build c (by rw[A06 b];exact a)
def RowsA (w:Ak) (v:Al) (xss:List (List Int)):Prop:=∃ B:List (Al×List Int),B.map (·.2)=xss∧Arr w v 1 (B.map Hy)∧RowsK w B
theorem RowsA.le {k k':Ak}{v:Al}{xss:List (List Int)} (h:RowsA k v xss) (a:Le k k'):RowsA k' v xss:=by
 obtain⟨B,b,c,d⟩:=h;exact⟨B,b,c.le a,d.le a⟩
theorem RowsA.slen {w:Ak}{v:Al}{xss:List (List Int)} (h:RowsA w v xss):SliceLen v xss.length:=by
 obtain⟨B,rfl,a,b⟩:=h;have:=a.lenMap;rwa [Gl]
theorem RowsA.ix {w:Ak}{v:Al}{xss:List (List Int)} (h:RowsA w v xss) {i:Int} (hi:IX i (ln xss)):∃ p u,Lw v i 1 p∧CellsAt w p [u] 0∧Arr w u 1 ((ele xss i).map Ar):=by
 obtain⟨B,rfl,d,f⟩:=h;have c:=hi.1;have a:=hi.2;unfold ln at a;rw[Gl] at a;have b:i.toNat<B.length:=Aa;obtain⟨p,g⟩:=d.lenMap.elem 1 i c a;refine⟨p,(B[i.toNat]).1,g,?_,?_⟩
 ·have:=d.row i.toNat (Hy B[i.toNat]) p (by simp[E7 b]) (by rwa [Aep c])
  exact this
 ·have:=f B[i.toNat] (Vy b)
  have e:ele (B.map (·.2)) i=(B[i.toNat]).2:=by simp[ele,Ec,E7 b]
  rw[e];exact this
theorem RowsA.ixG {w:Ak}{v:Al}{xss:List (List Int)} (h:RowsA w v xss) {i:Int}{g:Prop} (hi:g→IX i (ln xss)):∃ p u,(g→Lw v i 1 p)∧(g→CellsAt w p [u] 0)∧Arr w u 1 ((ele xss i).map Ar):=by
 by_cases a:g
 ·obtain⟨p,u,c,d,b⟩:=h.ix (hi a)
  exact⟨p,u,fun _=>c,fun _=>d,b⟩
 ·by_cases f:i.toNat<xss.length
  ·have j:IX (i.toNat:Int) (ln xss):=⟨Aa,by unfold ln;omega⟩
   obtain⟨p,u,c,d,b⟩:=h.ix j;refine⟨p,u,fun h=>absurd h a,fun h=>absurd h a,?_⟩;rwa [show ele xss (i.toNat:Int)=ele xss i from by unfold ele;rw[I9]] at b
  ·refine⟨default,.slice none 0 0,fun h=>absurd h a,fun h=>absurd h a,?_⟩
   have e:ele xss i=[]:=by simp[ele,Ec,Q1 (Aas f)];rfl
   rw[e];exact Gr
theorem M3 {M:Nat→Prop}{w0 k0 k:Ak}{H:List Res} (j:Nat) (b:H[j]?=some (kn M w0.heap.size k0 k)) (a:Base M k0 w0) {v:Al}{xss:List (List Int)} (h:RowsA k v xss):∀ w,Own M w0 H w→RowsA w v xss:=fun w c=>h.le (Own.le j b a c)
theorem Jf:∀ p:Al×List Int,(Hy p).length=1:=fun _=>rfl
theorem RowsK.cons {k:Ak}{v:Al}{xs:List Int}{B:List (Al×List Int)} (h:Arr k v 1 (xs.map Ar)) (b:RowsK k B):RowsK k ((v,xs)::B):=fun p a=>by
 rcases Gw.1 a with rfl | a
 ·exact h
 ·exact b p a
theorem RowsA.nil {k:Ak}:RowsA k (.slice none 0 0) []:=⟨[],rfl,Gr,Agd⟩
theorem CellsAt.le {k w:Ak}{p:Addr}{l:List Al}{j:Nat} (h:CellsAt k p l j) (a:Le k w):CellsAt w p l j:=h.mono a
theorem Qg {w:Ak}{b:Nat}{cs:List Al}{T:TypeId} (h:(blk b cs T).holds w):CellsAt w ⟨b,0,none⟩ cs 0:=An7 fun j v c=>by
 have a:w.heap[b]?=some (.cells cs.toArray T (0,0)):=h;rw[Tf,Tg,Tf];simp[World.cell?,a,c]
theorem RowsK.append {k:Ak}{A B:List (Al×List Int)} (h:RowsK k A) (a:RowsK k B):RowsK k (A++B):=fun p b=>(F8.1 b).elim (h p) (a p)
theorem Av4 {k:Ak}{B:List (Al×List Int)} (h:RowsK k B):∀ u∈B,∀ c∈Hy u,c.oneCell'=true:=fun p b c a=>by
 simp[Hy] at a;subst a;exact(h p b).len.one
theorem RowsA.sub {w:Ak}{v:Al}{xss:List (List Int)}{i j:Int} (h:RowsA w v xss) (d:SX i j (ln xss)):RowsA w (Np v 1 i.toNat j.toNat) (Rd.sub xss i j):=by
 obtain⟨B,rfl,b,c⟩:=h
 have e:SX i j (ln B):=by unfold ln at *;simpa using d
 refine⟨Rd.sub B i j,by simp[Rd.sub,Agu,Alg],Ip b e,fun p a=>c p ?_⟩;unfold Rd.sub at a;exact Ag8 (Z2 a)
theorem Av5 {A B:List (Al×List Int)}{xss a:List (List Int)} (h:A.map (·.2)=xss) (b:B.map (·.2)=a):(A++B).map (·.2)=xss++a:=by rw[Q0,h,b]
theorem Yo {B:List (Al×List Int)}{xss:List (List Int)}{u:Al}{r:List Int} (h:B.map (·.2)=xss):(B++[(u,r)]).map (·.2)=xss++[r]:=by rw[Q0,h];rfl
theorem AL.b1 {B:List (Al×List Int)}{xss:List (List Int)}{b:Nat} (h:B.map (·.2)=xss) (a:AL xss.length b):B.length≤maxLen:=by subst h;have:=a.1;rwa [Gl] at this
theorem AL.b2 {B:List (Al×List Int)}{xss:List (List Int)}{b:Nat} (h:B.map (·.2)=xss) (a:AL xss.length b):B.length * b≤140737488355328:=by subst h;have:=a.2;rwa [Gl] at this
section
variable {P : Bz} {n : Nat} {σ : Env} {M : Nat → Prop} {w0 k0 k : Ak} {H : List Res} {o : Oper} {K : Act → Ak → Prop} {Q : Exit → Act → Ak → Prop}
theorem WK.of {C C':Ak→Prop} (h:∀ w,C w→C' w) (kk:WK n K σ C'):WK n K σ C:=fun a w b c=>kk a w b (h w c)
def F7:=@WK.of
theorem EV.of {C C':Ak→Prop} (h:∀ w,C w→C' w) (kk:EV P n o σ C' K Q):EV P n o σ C K Q:=fun a w b c=>kk a w b (h w c)
theorem EV.freeze {r:Res} (f:Base M k0 w0) (kk:∀ k',Le k k'→r.holds k'→EV P n o σ (Own M w0 (kn M w0.heap.size k0 k'::H)) K Q):EV P n o σ (Own M w0 (kn M w0.heap.size k0 k::r::H)) K Q:=fun a w e g=>by
 obtain⟨k',b,c,d⟩:=g.freeze f;exact kk k' b c a w e d
def Sh:=@EV.freeze
end
end Go.Rd
end
section
namespace Go.Rd
structure Opr where
 (slot stage op dest a b ar sp pl n:Int)
def Opr.cells (o:Opr):List Al:=[.int .i64 o.slot,.int .i64 o.stage,.int .i64 o.op,.int .i64 o.dest,.int .i64 o.a,.int .i64 o.b,.int .i64 o.ar,.int .i64 o.sp,.int .i64 o.pl,.int .i64 o.n]
instance:Inhabited Opr:=⟨⟨0,0,0,0,0,0,0,0,0,0⟩⟩
structure Krn where
 (pace stages:Int)
 (ops:List Opr)
instance:Inhabited Krn:=⟨⟨0,0,[]⟩⟩
structure Edg where
 (fr tO bk wt:Int)
def Edg.cells (e:Edg):List Al:=[.int .i64 e.fr,.int .i64 e.tO,.int .i64 e.bk,.int .i64 e.wt]
instance:Inhabited Edg:=⟨⟨0,0,0,0⟩⟩
structure Pln where
 (pace:Int)
 (times:List Int)
instance:Inhabited Pln:=⟨⟨0,[]⟩⟩
structure Flt where
 (code at':Int)
def Flt.cells (e:Flt):List Al:=[.int .i64 e.code,.int .i64 e.at']
instance:Inhabited Flt:=⟨⟨0,0⟩⟩
structure Due where
 (due reg v:Int)
def Due.cells (e:Due):List Al:=[.int .i64 e.due,.int .i64 e.reg,.int .i64 e.v]
instance:Inhabited Due:=⟨⟨0,0,0⟩⟩
structure Off where
 (time ready place:Int)
def Off.cells (e:Off):List Al:=[.int .i64 e.time,.int .i64 e.ready,.int .i64 e.place]
instance:Inhabited Off:=⟨⟨0,0,0⟩⟩
structure Use where
 (til:Int)
 (later:Bool)
def Use.cells (e:Use):List Al:=[.int .i64 e.til,.bool e.later]
instance:Inhabited Use:=⟨⟨0,Az⟩⟩
structure Sta where
 (bef mem:List (List Int))
instance:Inhabited Sta:=⟨⟨[],[]⟩⟩
structure Rst where
 (outs:List Int)
 (mem:List (List Int))
instance:Inhabited Rst:=⟨⟨[],[]⟩⟩
structure Lay where
 (lp:Lp)
 (pace regs:Int)
 (time ready places:List Int)
instance:Inhabited Lay:=⟨⟨default,0,0,[],[],[]⟩⟩
theorem Opr.cells_len:∀ e:Opr,e.cells.length=10:=fun _=>rfl
theorem Opr.cells_one (ys:List Opr):∀ u∈ys,∀ c∈u.cells,c.oneCell'=true:=fun n _ c a=>by simp[Opr.cells] at a;rcases a with h | h | h | h | h | h | h | h | h | h <;> subst h <;> rfl
theorem Edg.cells_len:∀ e:Edg,e.cells.length=4:=fun _=>rfl
def Aem:=@Edg.cells_len
theorem Edg.cells_one (ys:List Edg):∀ u∈ys,∀ c∈u.cells,c.oneCell'=true:=fun n _ c a=>by simp[Edg.cells] at a;rcases a with h | h | h | h <;> subst h <;> rfl
def Atc:=@Edg.cells_one
theorem Due.cells_len:∀ e:Due,e.cells.length=3:=fun _=>rfl
def Zy:=@Due.cells_len
theorem Due.cells_one (ys:List Due):∀ u∈ys,∀ c∈u.cells,c.oneCell'=true:=fun n _ c a=>by simp[Due.cells] at a;rcases a with h | h | h <;> subst h <;> rfl
def An6:=@Due.cells_one
theorem Use.cells_len:∀ e:Use,e.cells.length=2:=fun _=>rfl
theorem Use.cells_one (ys:List Use):∀ u∈ys,∀ c∈u.cells,c.oneCell'=true:=fun n _ c a=>by simp[Use.cells] at a;rcases a with h | h <;> subst h <;> rfl
theorem Rf.cells_len:∀ e:Rf,e.cells.length=2:=fun _=>rfl
theorem Stm.cells_len:∀ e:Stm,e.cells.length=9:=fun _=>rfl
def An5:=@Stm.cells_len
theorem Stm.cells_one (ys:List Stm):∀ u∈ys,∀ c∈u.cells,c.oneCell'=true:=fun n _ c a=>by simp[Stm.cells] at a;rcases a with h | h | h | h | h | h | h | h | h <;> subst h <;> rfl
end Go.Rd
end