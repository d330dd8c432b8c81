import Derived.WalkKit
import Derived.Deep.Draws
import Derived.Deep.Quiet
import Derived.Scope
import Derived.WalkSpells
import Derived.ProofKit
import Derived.OpenShut
import Derived.ReadAgain
import Derived.ChangeSlices
import Derived.Lib.AppendZeros
import Derived.Lib.Strings
import Derived.Test.YtmpnheilfejcpaaGreatDoorC1
set_option linter.unusedVariables false
set_option linter.unusedSimpArgs false
theorem aH {p:Prop}(h:p:=by repeat (first|refine ⟨rfl,?_⟩|exact trivial)):p:=h
theorem I {α:Sort _}{a:α}:a=a:=rfl
theorem c4 {p:Prop}(h:p:=by have e:= ‹_=fun _=>False›;rw [e];exact fun h=>h):p:=h
theorem ic {p:Prop}(h:p:=by intro h aU;have e:= ‹_=fun _=>False›;rw [e] at aU;exact absurd aU id):p:=h
theorem hH {p:Prop}(h:p:=by first|(simp only [Nat.zero_add,Int.toNat_natCast,Int.toNat_zero];exact rfl)|exact rfl):p:=h
theorem dW {p:Prop}(h:p:=by show 0+1≤1;omega):p:=h
theorem nb {p:Prop}(h:p:=by show (List.set _ _ _).length=_;rw [List.length_set];rfl):p:=h
theorem af {p:Prop}(h:p:=by kernel_rfl):p:=h
theorem J {p:Prop}(h:p:=by omega):p:=h
theorem a6 {p:Prop}(h:p:=by decide):p:=h
theorem bZ {p:Prop}(h:p:=by simp):p:=h
theorem hv {p:Prop}(h:p:=by assumption):p:=h
theorem alS {p:Prop}(h:p:=by exact rfl):p:=h
theorem kl {p:Prop}(h:p:=by rfl):p:=h
theorem mq {p:Prop}(h:p:=by first|assumption|omega):p:=h
theorem F8 {p:Prop}(h:p:=by first|exact Nat.zero_lt_one|assumption|omega):p:=h
theorem az:type_of% @if_neg:= @if_neg
theorem aG:type_of% @if_pos:= @if_pos
theorem bR:type_of% @Nat.le_refl:= @Nat.le_refl
theorem cf:type_of% @Nat.zero_le:= @Nat.zero_le
theorem cA:type_of% @Int.toNat_natCast:= @Int.toNat_natCast
theorem cL:type_of% @List.length_map:= @List.length_map
theorem c1:type_of% @Nat.zero_add:= @Nat.zero_add
theorem c2:type_of% @List.length_append:= @List.length_append
theorem da:type_of% @List.mem_map:= @List.mem_map
theorem dj:type_of% @List.length_set:= @List.length_set
theorem dy:type_of% @Option.some.injEq:= @Option.some.injEq
theorem dT:type_of% @Nat.le_trans:= @Nat.le_trans
theorem ef:type_of% @Nat.add_mul:= @Nat.add_mul
theorem ei:type_of% @Bool.and_eq_true:= @Bool.and_eq_true
theorem eQ:type_of% @Nat.add_zero:= @Nat.add_zero
theorem eX:type_of% @decide_eq_true_eq:= @decide_eq_true_eq
theorem e5:type_of% @Nat.lt_one_iff:= @Nat.lt_one_iff
theorem ff:type_of% @List.length_take:= @List.length_take
theorem fo:type_of% @Nat.mul_le_mul_right:= @Nat.mul_le_mul_right
theorem fp:type_of% @Nat.zero_lt_one:= @Nat.zero_lt_one
theorem fq:type_of% @decide_eq_false:= @decide_eq_false
theorem fv:type_of% @decide_eq_true:= @decide_eq_true
theorem fw:type_of% @List.length_replicate:= @List.length_replicate
theorem fS:type_of% @if_true:= @if_true
theorem fT:type_of% @List.mem_cons:= @List.mem_cons
theorem fZ:type_of% @List.length_cons:= @List.length_cons
theorem ga:type_of% @Nat.lt_or_ge:= @Nat.lt_or_ge
theorem gb:type_of% @List.take_length:= @List.take_length
theorem gd:type_of% @Int.mul_zero:= @Int.mul_zero
theorem gn:type_of% @Int.toNat_zero:= @Int.toNat_zero
theorem gp:type_of% @Nat.pow_le_pow_right:= @Nat.pow_le_pow_right
theorem gy:type_of% @Nat.not_lt_zero:= @Nat.not_lt_zero
theorem gz:type_of% @List.mem_append:= @List.mem_append
theorem gH:type_of% @Nat.lt_succ_self:= @Nat.lt_succ_self
theorem gL:type_of% @List.getElem?_eq_some_iff:= @List.getElem?_eq_some_iff
theorem gM:type_of% @Nat.mul_comm:= @Nat.mul_comm
theorem gN:type_of% @Nat.mul_add:= @Nat.mul_add
theorem gW:type_of% @if_false:= @if_false
theorem gX:type_of% @List.length_range:= @List.length_range
theorem hE:type_of% @Nat.lt_of_lt_of_le:= @Nat.lt_of_lt_of_le
theorem hF:type_of% @Nat.min_eq_left:= @Nat.min_eq_left
theorem hQ:type_of% @List.getElem?_append_left:= @List.getElem?_append_left
theorem hR:type_of% @List.mem_singleton:= @List.mem_singleton
theorem hS:type_of% @List.map_append:= @List.map_append
theorem h4:type_of% @Nat.pow_succ:= @Nat.pow_succ
theorem h5:type_of% @Nat.mul_le_mul_left:= @Nat.mul_le_mul_left
theorem ir:type_of% @Nat.le_of_ble_eq_true:= @Nat.le_of_ble_eq_true
theorem iW:type_of% @Int.zero_mul:= @Int.zero_mul
theorem jm:type_of% @Nat.pow_add:= @Nat.pow_add
theorem jA:type_of% @List.getElem?_append_right:= @List.getElem?_append_right
theorem jB:type_of% @Nat.mul_le_mul:= @Nat.mul_le_mul
theorem jT:type_of% @List.getElem?_eq_none:= @List.getElem?_eq_none
theorem jU:type_of% @List.take_of_length_le:= @List.take_of_length_le
theorem jV:type_of% @Classical.not_not:= @Classical.not_not
theorem jW:type_of% @Int.mul_assoc:= @Int.mul_assoc
theorem kd:type_of% @List.length_nil:= @List.length_nil
theorem ke:type_of% @Nat.mul_assoc:= @Nat.mul_assoc
theorem kf:type_of% @Int.natAbs_mul:= @Int.natAbs_mul
theorem kA:type_of% @Nat.mod_lt:= @Nat.mod_lt
theorem kB:type_of% @List.append_nil:= @List.append_nil
theorem kC:type_of% @Nat.add_assoc:= @Nat.add_assoc
theorem kZ:type_of% @cond_true:= @cond_true
theorem k0:type_of% @List.getElem?_set_ne:= @List.getElem?_set_ne
theorem k1:type_of% @Int.natAbs_natCast:= @Int.natAbs_natCast
theorem ll:type_of% @List.append_assoc:= @List.append_assoc
theorem ln:type_of% @List.getElem_of_mem:= @List.getElem_of_mem
theorem lo:type_of% @List.ext_getElem:= @List.ext_getElem
theorem lp:type_of% @Int.mul_comm:= @Int.mul_comm
theorem lq:type_of% @Int.one_mul:= @Int.one_mul
theorem lr:type_of% @List.map_congr_left:= @List.map_congr_left
theorem lO:type_of% @Bool.true_and:= @Bool.true_and
theorem me:type_of% @List.getElem?_map:= @List.getElem?_map
theorem mf:type_of% @List.getElem_map:= @List.getElem_map
theorem mK:type_of% @Nat.mod_eq_of_lt:= @Nat.mod_eq_of_lt
theorem mL:type_of% @List.getElem?_eq_getElem:= @List.getElem?_eq_getElem
theorem mM:type_of% @Nat.pow_pos:= @Nat.pow_pos
theorem mN:type_of% @Rat.add_zero:= @Rat.add_zero
theorem mO:type_of% @Rat.mul_comm:= @Rat.mul_comm
theorem mP:type_of% @or_false:= @or_false
theorem nA:type_of% @cond_false:= @cond_false
theorem nB:type_of% @List.getElem?_set_self:= @List.getElem?_set_self
theorem nC:type_of% @List.any_eq_true:= @List.any_eq_true
theorem nD:type_of% @Nat.eq_zero_or_pos:= @Nat.eq_zero_or_pos
theorem nE:type_of% @List.map_cons:= @List.map_cons
theorem nF:type_of% @List.mem_nil_iff:= @List.mem_nil_iff
theorem ot:type_of% @Nat.eq_of_beq_eq_true:= @Nat.eq_of_beq_eq_true
theorem ou:type_of% @Nat.beq_refl:= @Nat.beq_refl
theorem ov:type_of% @Nat.lt_irrefl:= @Nat.lt_irrefl
theorem ow:type_of% @Nat.ne_of_lt:= @Nat.ne_of_lt
theorem ox:type_of% @Nat.div_eq_of_lt:= @Nat.div_eq_of_lt
theorem oy:type_of% @Option.getD_some:= @Option.getD_some
theorem oz:type_of% @List.getElem?_append:= @List.getElem?_append
theorem oA:type_of% @List.mem_of_getElem?:= @List.mem_of_getElem?
theorem oB:type_of% @List.mem_of_mem_take:= @List.mem_of_mem_take
theorem oC:type_of% @List.cons_append:= @List.cons_append
theorem oD:type_of% @Nat.sub_self:= @Nat.sub_self
theorem oE:type_of% @Nat.add_comm:= @Nat.add_comm
theorem oF:type_of% @Rat.zero_mul:= @Rat.zero_mul
theorem oG:type_of% @Int.mul_left_comm:= @Int.mul_left_comm
theorem oH:type_of% @Rat.intCast_mul:= @Rat.intCast_mul
theorem oo:type_of% @Int.eq_ofNat_of_zero_le:= @Int.eq_ofNat_of_zero_le
theorem oq:type_of% @Rat.zero_add:= @Rat.zero_add
theorem pj:type_of% @List.getElem?_take:= @List.getElem?_take
theorem pk:type_of% @Nat.le_add_right:= @Nat.le_add_right
theorem pn:type_of% @Bool.not_eq_true:= @Bool.not_eq_true
theorem po:type_of% @Int.mul_neg:= @Int.mul_neg
theorem pq:type_of% @Bool.false_and:= @Bool.false_and
theorem p3:type_of% @Option.some.inj:= @Option.some.inj
theorem p4:type_of% @Ne.symm:= @Ne.symm
theorem p5:type_of% @Nat.ble_eq_true_of_le:= @Nat.ble_eq_true_of_le
theorem p6:type_of% @List.take_succ_eq_append_getElem:= @List.take_succ_eq_append_getElem
theorem p7:type_of% @Int.natAbs_neg:= @Int.natAbs_neg
theorem p8:type_of% @decide_eq_decide:= @decide_eq_decide
theorem p9:type_of% @Int.neg_mul:= @Int.neg_mul
theorem q0:type_of% @Bool.false_eq_true:= @Bool.false_eq_true
theorem q1:type_of% @Classical.choose_spec:= @Classical.choose_spec
theorem q2:type_of% @List.mem_range:= @List.mem_range
theorem q3:type_of% @Nat.mul_one:= @Nat.mul_one
theorem q4:type_of% @Int.mul_nonneg:= @Int.mul_nonneg
theorem q5:type_of% @Nat.le_of_lt:= @Nat.le_of_lt
theorem q6:type_of% @Rat.le_trans:= @Rat.le_trans
theorem rV:type_of% @List.take_append_drop:= @List.take_append_drop
theorem rW:type_of% @Option.map_some:= @Option.map_some
theorem rX:type_of% @Nat.lt_of_le_of_lt:= @Nat.lt_of_le_of_lt
theorem rY:type_of% @Nat.mul_zero:= @Nat.mul_zero
theorem rZ:type_of% @Nat.one_mul:= @Nat.one_mul
theorem r0:type_of% @Rat.one_mul:= @Rat.one_mul
theorem r1:type_of% @List.any_eq_false:= @List.any_eq_false
theorem r2:type_of% @List.range_succ:= @List.range_succ
theorem r3:type_of% @Rat.le_of_mul_le_mul_right:= @Rat.le_of_mul_le_mul_right
theorem r4:type_of% @Rat.le_antisymm:= @Rat.le_antisymm
theorem r5:type_of% @Eq.trans:= @Eq.trans
theorem r6:type_of% @Bool.false_ne_true:= @Bool.false_ne_true
theorem r7:type_of% @List.drop_length:= @List.drop_length
theorem s0:type_of% @Nat.zero_mul:= @Nat.zero_mul
theorem s3:type_of% @Bool.eq_iff_iff:= @Bool.eq_iff_iff
theorem s4:type_of% @List.getElem?_replicate:= @List.getElem?_replicate
theorem s5:type_of% @List.drop_zero:= @List.drop_zero
theorem s6:type_of% @Int.add_zero:= @Int.add_zero
theorem uv:type_of% @dite_true:= @dite_true
theorem uw:type_of% @List.getElem?_range:= @List.getElem?_range
theorem ux:type_of% @List.mem_append_left:= @List.mem_append_left
theorem uy:type_of% @List.all_eq_true:= @List.all_eq_true
theorem uz:type_of% @Nat.div_le_self:= @Nat.div_le_self
theorem uA:type_of% @List.mem_cons_of_mem:= @List.mem_cons_of_mem
theorem uB:type_of% @List.length_drop:= @List.length_drop
theorem uC:type_of% @List.length_eq_zero_iff:= @List.length_eq_zero_iff
theorem uD:type_of% @Int.ofNat_lt:= @Int.ofNat_lt
theorem uE:type_of% @Bool.or_eq_true:= @Bool.or_eq_true
theorem uF:type_of% @List.getD_eq_getElem?_getD:= @List.getD_eq_getElem?_getD
theorem vS:type_of% @Nat.sub_zero:= @Nat.sub_zero
theorem vT:type_of% @List.mem_cons_self:= @List.mem_cons_self
theorem vU:type_of% @Nat.div_lt_of_lt_mul:= @Nat.div_lt_of_lt_mul
theorem vV:type_of% @List.set_set:= @List.set_set
theorem vW:type_of% @Nat.pow_le_pow_left:= @Nat.pow_le_pow_left
theorem vX:type_of% @Rat.mul_zero:= @Rat.mul_zero
theorem vY:type_of% @Int.le_of_lt:= @Int.le_of_lt
theorem vZ:type_of% @Int.mul_pos:= @Int.mul_pos
theorem v7:type_of% @Rat.intCast_natCast:= @Rat.intCast_natCast
theorem v8:type_of% @List.map_nil:= @List.map_nil
theorem wa:type_of% @Int.mul_eq_zero:= @Int.mul_eq_zero
theorem xy:type_of% @Prod.mk.injEq:= @Prod.mk.injEq
theorem xz:type_of% @Nat.pos_of_ne_zero:= @Nat.pos_of_ne_zero
theorem xA:type_of% @Nat.add_sub_cancel_left:= @Nat.add_sub_cancel_left
theorem xB:type_of% @List.mem_filter:= @List.mem_filter
theorem xC:type_of% @List.pairwise_iff_getElem:= @List.pairwise_iff_getElem
theorem xD:type_of% @Nat.pow_zero:= @Nat.pow_zero
theorem xE:type_of% @List.mem_or_eq_of_mem_set:= @List.mem_or_eq_of_mem_set
theorem xF:type_of% @Int.lt_trichotomy:= @Int.lt_trichotomy
theorem xG:type_of% @Nat.div_add_mod:= @Nat.div_add_mod
theorem xH:type_of% @Rat.add_assoc:= @Rat.add_assoc
theorem xI:type_of% @Int.mul_add:= @Int.mul_add
theorem xJ:type_of% @List.getElem_set:= @List.getElem_set
theorem xK:type_of% @List.length_filter_le:= @List.length_filter_le
theorem xL:type_of% @Classical.byContradiction:= @Classical.byContradiction
theorem xM:type_of% @Rat.mul_nonneg:= @Rat.mul_nonneg
theorem xN:type_of% @Array.getD_eq_getD_getElem?:= @Array.getD_eq_getD_getElem?
theorem xO:type_of% @Int.sub_zero:= @Int.sub_zero
theorem xP:type_of% @Bool.not_eq_true':= @Bool.not_eq_true'
theorem xQ:type_of% @List.length_pos_iff:= @List.length_pos_iff
theorem zl:type_of% @Array.getElem?_setIfInBounds:= @Array.getElem?_setIfInBounds
theorem zm:type_of% @of_decide_eq_true:= @of_decide_eq_true
theorem zn:type_of% @List.getElem?_toArray:= @List.getElem?_toArray
theorem zo:type_of% @List.getD_cons_zero:= @List.getD_cons_zero
theorem zp:type_of% @List.drop_of_length_le:= @List.drop_of_length_le
theorem zq:type_of% @List.mem_replicate:= @List.mem_replicate
theorem zr:type_of% @Array.mem_toList_iff:= @Array.mem_toList_iff
theorem zt:type_of% @List.set_append_right:= @List.set_append_right
theorem zu:type_of% @List.all_cons:= @List.all_cons
theorem zv:type_of% @Bool.false_or:= @Bool.false_or
theorem zw:type_of% @Rat.mul_assoc:= @Rat.mul_assoc
theorem zx:type_of% @decide_eq_false_iff_not:= @decide_eq_false_iff_not
theorem zy:type_of% @List.getElem_range:= @List.getElem_range
theorem zz:type_of% @List.nodup_cons:= @List.nodup_cons
theorem zA:type_of% @Nat.le_of_dvd:= @Nat.le_of_dvd
theorem zB:type_of% @List.not_mem_nil:= @List.not_mem_nil
theorem BY:type_of% @Array.toArray_toList:= @Array.toArray_toList
theorem BZ:type_of% @Array.getElem?_append:= @Array.getElem?_append
theorem B0:type_of% @List.getElem?_set:= @List.getElem?_set
theorem B1:type_of% @Nat.lt_trichotomy:= @Nat.lt_trichotomy
theorem B2:type_of% @Nat.div_lt_self:= @Nat.div_lt_self
theorem B3:type_of% @Nat.mul_ne_zero:= @Nat.mul_ne_zero
theorem B4:type_of% @Nat.gcd_dvd_right:= @Nat.gcd_dvd_right
theorem B5:type_of% @Rat.intCast_add:= @Rat.intCast_add
theorem B6:type_of% @List.mem_iff_getElem:= @List.mem_iff_getElem
theorem B7:type_of% @List.nodup_iff_pairwise_ne:= @List.nodup_iff_pairwise_ne
theorem B8:type_of% @List.getElem_cons_succ:= @List.getElem_cons_succ
theorem B9:type_of% @Int.natCast_nonneg:= @Int.natCast_nonneg
theorem Ca:type_of% @List.getElem_replicate:= @List.getElem_replicate
theorem EI:type_of% @Array.getElem?_append_left:= @Array.getElem?_append_left
theorem EJ:type_of% @Nat.add_mul_mod_self_left:= @Nat.add_mul_mod_self_left
theorem EK:type_of% @List.dropWhile_cons_of_neg:= @List.dropWhile_cons_of_neg
theorem EL:type_of% @Int.mul_ediv_cancel_left:= @Int.mul_ediv_cancel_left
theorem EM:type_of% @Rat.intCast_le_intCast:= @Rat.intCast_le_intCast
theorem EN:type_of% @List.eq_of_mem_replicate:= @List.eq_of_mem_replicate
namespace Go.ai
mutual
inductive al where
 |int (k:IntKind) (n:Int)
 |bool (b:Bool)
 |str (s:List UInt8)
 |nil
 |ro (c:Cells) (i len:Nat)
 |aA (h i len:Nat)
 |de (c:Cells) (i j:Nat)
 |ptr (h i j:Nat)
 |oP
 |fn (f:FuncId) (cap:List al)
 |oO
 |iface
 |nd
 |agg (l:List al)
 |cd (l:List al)
 |mp (h:Nat)
 |jK (ks vs:List al)
 |any
inductive Cells where
 |ints (k:IntKind) (l:List Int)
 |strs (l:List (List UInt8))
 |box (l:List al)
 |fn (n s:Nat) (f:Nat→Nat→al)
 |mp (ks vs:List al)
end
def Cells.len:Cells→Nat
 | .ints _ l=>l.length
 | .strs l=>l.length
 | .box _=>1
 | .fn n _ _=>n
 | .mp _ _=>0
def Cells.aC:Cells→Nat
 | .ints _ _=>1
 | .strs _=>1
 | .box l=>l.length
 | .fn _ s _=>s
 | .mp _ _=>0
def Cells.at:Cells→Nat→Nat→al
 | .ints k l,i,_=> .int k (l.getD i 0)
 | .strs l,i,_=> .str (l.getD i [])
 | .box l,_,j=>l.getD j .any
 | .fn _ _ f,i,j=>f i j
 | .mp _ _,_,_=> .any
def Cells.bU:Cells→Nat×Cells
 | .mp ks vs=>(0,.mp ks vs)
 | .ints _ _=>(1,.strs [])
 | .strs _=>(1,.strs [])
 | .box l=>(l.length,.strs [])
 | .fn _ s _=>(s,.strs [])
theorem zc {a b:Cells}(h:b.bU=a.bU):b.aC=a.aC:=by cases a<;>cases b<;>simp_all [Cells.bU,Cells.aC]
theorem abm {b:Cells}{ks vs:List al}(h:b.bU=(Cells.mp ks vs).bU):b= .mp ks vs:=by cases b<;>simp_all [Cells.bU]
structure bk where
 ty:TypeId
 c:Cells
abbrev aX:=List (Option bk)
abbrev Fr:=List (Nat×al)
inductive bQ where
 |at (b s cap:Nat)
 |k8
def oh (s:List UInt8):Value:= .string ⟨s.toArray⟩
inductive bp (w:World)(S:Nat→Prop):(Nat→Option bQ)→al→Value→Prop
 |int (σ k n):bp w S σ (.int k n) (.int k n)
 |bool (σ b):bp w S σ (.bool b) (.bool b)
 |str (σ s):bp w S σ (.str s) (oh s)
 |nil (σ):bp w S σ .nil (.slice none 0 0)
 |jJ (σ c i a cap):bp w S σ (.ro c i 0) (.slice a 0 cap)
 |ro (σ c i len b o cap) (val:Nat→Nat→Value) (dp:S b) (hlen:len≤cap)
  (av: ∀d j,d<len→j<c.aC→w.cell? ⟨b,o+d*c.aC+j,none⟩=some (val d j))
  (ah: ∀d j,d<len→j<c.aC→bp w S (fun _=>none) (c.at (i+d) j) (val d j)) (U: ∀d j,d<len→j<c.aC→(val d j).oneCell'=true):
  bp w S σ (.ro c i len) (.slice (some ⟨b,o,none⟩) len cap)
 |aA (σ h i len b s C cap) (bG:σ h=some (.at b s C)) (hlen:len≤cap) (jE:i+cap=C):
  bp w S σ (.aA h i len) (.slice (some ⟨b,i*s,none⟩) len cap)
 |hW (σ h) (bG:σ h=some .k8):bp w S σ (.aA h 0 0) (.slice none 0 0)
 |de (σ c i j b o) (val:Nat→Value) (dp:S b)
  (av: ∀e,j+e<c.aC→w.cell? ⟨b,o+e,none⟩=some (val e))
  (ah: ∀e,j+e<c.aC→bp w S (fun _=>none) (c.at i (j+e)) (val e)) (U: ∀e,j+e<c.aC→(val e).oneCell'=true):
  bp w S σ (.de c i j) (.pointer (some ⟨b,o,none⟩))
 |ptr (σ h i j b s C) (bG:σ h=some (.at b s C)):bp w S σ (.ptr h i j) (.pointer (some ⟨b,i*s+j,none⟩))
 |oP (σ):bp w S σ .oP (.pointer none)
 |fn (σ f cap) (vs:Array Value) (au:vs.size=cap.length) (ah: ∀i,i<cap.length→bp w S σ (cap.getD i .any) (vs.getD i undef)):
  bp w S σ (.fn f cap) (.func (.func f) #[] vs)
 |oO (σ):bp w S σ .oO .nilFunc
 |iface (σ t v):bp w S σ .iface (.iface t v)
 |nd (σ):bp w S σ .nd .nilIface
 |agg (σ l) (vs:Array Value) (au:vs.size=l.length) (ah: ∀i,i<l.length→bp w S σ (l.getD i .any) (vs.getD i undef)) (U: ∀i,i<l.length→(vs.getD i undef).oneCell'=true):
  bp w S σ (.agg l) (.agg vs)
 |cd (σ l) (vs:Array Value) (au:vs.size=l.length) (ah: ∀i,i<l.length→bp w S σ (l.getD i .any) (vs.getD i undef)):
  bp w S σ (.cd l) (.tuple vs)
 |mp (σ h b) (bG:σ h=some (.at b 0 (maxLen+1))):bp w S σ (.mp h) (.map (some b))
 |jK (σ ks vs b es clock) (e:Nat→MapEntry) (dp:S b) (ak:w.heap[b]? =some (.map es clock)) (aF:es.size=ks.length) (au:vs.length=ks.length) (hd:es.toList.Pairwise (fun x y=>x.key≠y.key))
  (he: ∀i,i<ks.length→es[i]? =some (e i)) (ao: ∀i,i<ks.length→bp w S (fun _=>none) (ks.getD i .any) (e i).key) (ah: ∀i,i<ks.length→bp w S (fun _=>none) (vs.getD i .any) (e i).val):
  bp w S σ (.jK ks vs) (.map (some b))
 |any (σ v):bp w S σ .any v
theorem bp.mono {w w':World}{S bY:Nat→Prop}(dp: ∀b,S b→bY b)(ak: ∀b,S b→w'.heap[b]? =w.heap[b]?){σ:Nat→Option bQ}{x:al}{v:Value}(h:bp w S σ x v): ∀bu,(∀h B,σ h=some B→bu h=some B)→bp w' bY bu x v:=by
 have mU: ∀b o,S b→w'.cell? ⟨b,o,none⟩=w.cell? ⟨b,o,none⟩:=fun b o ax=>World.cell?_of_block (ak b ax);induction h with
 |int=>intros;constructor
 |bool=>intros;constructor
 |str=>intros;constructor
 |nil=>intros;constructor
 |jJ=>intros;constructor
 |ro σ c i len b o cap val e1 hlen av ah U a8=>
  intro bu bG;refine .ro _ _ _ _ _ _ _ val (dp _ e1) hlen (fun d j hd ae=>by rw [mU _ _ e1];exact av d j hd ae) (fun d j hd ae=>a8 d j hd ae _ (fun _ _ h=>h)) U
 |aA σ h i len b s C cap yn hlen jE=>intro bu bG;exact .aA _ _ _ _ _ _ _ _ (bG _ _ yn) hlen jE
 |hW σ h yn=>intro bu bG;exact .hW _ _ (bG _ _ yn)
 |de σ c i j b o val e1 av ah U a8=>
  intro bu bG;exact .de _ _ _ _ _ _ val (dp _ e1) (fun e he=>by rw [mU _ _ e1];exact av e he) (fun e he=>a8 e he _ (fun _ _ h=>h)) U
 |ptr σ h i j b s C yn=>intro bu bG;exact .ptr _ _ _ _ _ _ _ (bG _ _ yn)
 |oP=>intros;constructor
 |fn σ f cap vs au ah a8=>intro bu bG;exact .fn _ _ _ _ au (fun i aa=>a8 i aa _ bG)
 |oO=>intros;constructor
 |iface=>intros;constructor
 |nd=>intros;constructor
 |agg σ l vs au ah U a8=>intro bu bG;exact .agg _ _ _ au (fun i aa=>a8 i aa _ bG) U
 |cd σ l vs au ah a8=>intro bu bG;exact .cd _ _ _ au (fun i aa=>a8 i aa _ bG)
 |mp σ h b yn=>intro bu bG;exact .mp _ _ _ (bG _ _ yn)
 |jK σ ks vs b es clock e e1 sl aF au hd he ao ah KF KH=>
  intro bu bG;exact .jK _ _ _ b es clock e (dp _ e1) (by rw [ak _ e1];exact sl) aF au hd he (fun i aa=>KF i aa _ (fun _ _ h=>h)) (fun i aa=>KH i aa _ (fun _ _ h=>h))
 |any=>intros;constructor
inductive Lays (w:World)(S:Nat→Prop)(σ:Nat→Option bQ)(o:bk)(b:Nat)(cur:Array Value)(C:Nat):Prop
 |row (mk:Nat×Nat) (h:w.heap[b]? =some (.cells cur o.ty mk)) (hm:mk.2≤mk.1∨cur.size≤mk.1) (dR:C≤maxLen)
 |map (ks vs:List al) (es:Array MapEntry) (clock:Nat) (av:o.c= .mp ks vs) (dR:C=maxLen+1) (h:w.heap[b]? =some (.map es clock)) (aF:es.size=ks.length) (au:vs.length=ks.length) (hd:es.toList.Pairwise (fun x y=>x.key≠y.key))
  (he: ∀i,i<ks.length→ ∃e,es[i]? =some e∧bp w S σ (ks.getD i .any) e.key∧bp w S σ (vs.getD i .any) e.val)
theorem Lays.lt {w:World}{S:Nat→Prop}{σ:Nat→Option bQ}{o:bk}{b:Nat}{cur:Array Value}{C:Nat}(h:Lays w S σ o b cur C):b<w.heap.size:=by
 cases h with
 |row mk h=>exact (Array.getElem?_eq_some_iff.1 h).1
 |map ks vs es clock av dR h=>exact (Array.getElem?_eq_some_iff.1 h).1
theorem Lays.mono {w w':World}{S bY:Nat→Prop}{σ bu:Nat→Option bQ}{o:bk}{b:Nat}{cur:Array Value}{C:Nat}(ak:w'.heap[b]? =w.heap[b]?)(ah: ∀{x v},bp w S σ x v→bp w' bY bu x v)(h:Lays w S σ o b cur C):Lays w' bY bu o b cur C:=by
 cases h with
 |row mk h hm dR=>exact .row mk (by rw [ak];exact h) hm dR
 |map ks vs es clock av dR h aF au hd he=>exact .map ks vs es clock av dR (by rw [ak];exact h) aF au hd (fun i aa=>let ⟨e,aD,aE,bM⟩:=he i aa;⟨e,aD,ah aE,ah bM⟩)
theorem Lays.bU {w:World}{S:Nat→Prop}{σ:Nat→Option bQ}{o o':bk}{b:Nat}{cur:Array Value}{C:Nat}(bs:o'.ty=o.ty)(ao:o'.c.bU=o.c.bU)(h:Lays w S σ o b cur C):Lays w S σ o' b cur C:=by
 cases h with
 |row mk h hm dR=>exact .row mk (by rw [bs];exact h) hm dR
 |map ks vs es clock av dR h aF au hd he=>exact .map ks vs es clock (abm (by rw [ao,av])) dR h aF au hd he
theorem Lays.cells {w:World}{S:Nat→Prop}{σ:Nat→Option bQ}{o:bk}{b:Nat}{cur:Array Value}{C:Nat}(h:Lays w S σ o b cur C)(ax:o.c.aC≠0):
 ∃mk,w.heap[b]? =some (.cells cur o.ty mk)∧(mk.2≤mk.1∨cur.size≤mk.1)∧C≤maxLen:=by
 cases h with
 |row mk h hm dR=>exact ⟨mk,h,hm,dR⟩
 |map ks vs es clock av=>rw [av] at ax;exact absurd rfl ax
theorem Lays.uJ {w:World}{S:Nat→Prop}{σ:Nat→Option bQ}{o:bk}{b:Nat}{cur:Array Value}{C:Nat}(h:Lays w S σ o b cur C)(dR:C≤maxLen):
 ∃mk,w.heap[b]? =some (.cells cur o.ty mk)∧(mk.2≤mk.1∨cur.size≤mk.1):=by
 cases h with
 |row mk h hm _=>exact ⟨mk,h,hm⟩
 |map ks vs es clock av akL=>omega
structure kX (w:World)(S:Nat→Prop)(σ:Nat→Option bQ)(H:aX):Prop where
 live: ∀h o,H[h]? =some (some o)→
  (σ h=some .k8∧o.c.len=0)∨
  ∃b C cur,σ h=some (.at b o.c.aC C)∧Lays w S σ o b cur C∧cur.size=C*o.c.aC∧C≤maxLen+1∧o.c.len≤C∧ ¬S b∧
   ∀i j,i<o.c.len→j<o.c.aC→ ∃v,cur[i*o.c.aC+j]? =some v∧bp w S σ (o.c.at i j) v∧v.oneCell'=true
 hi: ∀h aL o o' b s C cl cF,H[h]? =some (some o)→H[aL]? =some (some o')→σ h=some (.at b s C)→σ aL=some (.at b cl cF)→h=aL
 small: ∀b,S b→b<w.heap.size
 hG: ∀h,H.length≤h→σ h=none
end Go.ai
namespace Go.ai
open Go.RowKit
theorem db {a b:Nat}(h:a≠b):Nat.beq a b=false:=by
 cases ak:Nat.beq a b with
 |false=>rfl
 |true=>exact absurd (ot ak) h
def look (t:Nat):Fr→Option al
 |[]=>none
 |(u,v)::r=>bif Nat.beq t u then some v else look t r
class bq where
 G:World→(Nat→Prop)→Prop
variable [bq]
structure Ctx where
 dA:World
 vQ:Nat→Prop
 O:Nat→Prop
 pf:Nat→Option bQ
 fix:Nat→Prop
 R:al→aX→Prop
 acV: ∀(w:World) (S:Nat→Prop),(∀b,vQ b→S b)→dA.heap.size≤w.heap.size→(∀b,b<dA.heap.size→ ¬O b→w.heap[b]? =dA.heap[b]?)→bq.G w S
structure vP (c:Ctx)(w:World)(S:Nat→Prop)(σ:Nat→Option bQ)(H:aX):Prop where
 os:w.os=c.dA.os
 output:w.output=c.dA.output
 tape:w.tape=c.dA.tape
 size:c.dA.heap.size≤w.heap.size
 block: ∀b,b<c.dA.heap.size→ ¬c.O b→w.heap[b]? =c.dA.heap[b]?
 hD: ∀b,c.vQ b→S b
 e4: ∀b,S b→c.vQ b∨c.O b∨c.dA.heap.size≤b
 fixed: ∀h,c.fix h→σ h=c.pf h
 iY: ∀h,c.fix h→h<H.length
 own: ∀h o b s C,H[h]? =some (some o)→σ h=some (.at b s C)→c.O b∨c.dA.heap.size≤b
structure b6 (c:Ctx)(w:World)(a:Act)(σ:Nat→Option bQ)(S:Nat→Prop)(n:Nat)(fr:Fr)(H:aX):Prop where
 ad:kX w S σ H
 bh:vP c w S σ H
 defers:a.defers=[]
 size:a.tmps.size=n
 e8: ∀t v,look t fr=some v→t<n∧bp w S σ v (a.tmps.getD t undef)
inductive eh where
 |code (c:Code)
 |s7 (id:Nat)
 |scope
 |inv (G:Fr→aX→Prop)
 |any (all:Array Oper) (fuel:Nat) (listed:Array Bool)
def lift (c:Ctx)(n:Nat)(Q:Exit→Fr→aX→Prop):Exit→Act→World→Prop:=fun e a w=> ∃σ S fr H,b6 c w a σ S n fr H∧Q e fr H
def Eu (P:Program)(fr:Fr)(H:aX):ResultVar→Option al
 | .tmp t=>look t fr
 | .cell t ty=>
  match look t fr with
  |some (.ptr h 0 0)=>
   match H[h]? with
   |some (some o)=>
    match o.c with
    | .box l=>
     match P.underlying ty,P.info? ty with
     |some (.struct _),some i=>bif Nat.beq i.size l.length then some (.agg l) else none
     |some (.array _ _),some i=>bif Nat.beq i.size l.length then some (.agg l) else none
     |some (.struct _),none=>none
     |some (.array _ _),none=>none
     |some _,_=>bif Nat.beq 1 l.length then l[0]? else none
     |none,_=>none
    |_=>none
   |_=>none
  |_=>none
def sO (P:Program)(fr:Fr)(H:aX):List ResultVar→Option (List al)
 |[]=>some []
 |r::rs=>match Eu P fr H r with
  |some v=>match sO P fr H rs with
   |some vs=>some (v::vs)
   |none=>none
  |none=>none
def gK:List al→al
 |[v]=>v
 |vs=> .cd vs
def ek (P:Program)(fn:Func)(c:Ctx):List eh→Exit→Fr→aX→Prop
 |[],e,fr,H=>(e= .normal∨e= .ret)∧ ∃vs,sO P fr H fn.results.toList=some vs∧c.R (gK vs) H
 | .code qb::k,.normal,fr,H=> ∀w a σ S,b6 c w a σ S fn.ntmps fr H→qb.wp P (lift c fn.ntmps (ek P fn c k)) a w
 | .code _::k,e,fr,H=>ek P fn c k e fr H
 | .s7 id::k,.exit tr,fr,H=>bif Nat.beq tr id then ek P fn c k .normal fr H else ek P fn c k (.exit tr) fr H
 | .s7 _::k,e,fr,H=>ek P fn c k e fr H
 | .scope::k,e,fr,H=>match e with
  | .goto _=>False
  |e=>ek P fn c k e fr H
 | .inv G::k,e,fr,H=>match e with
  | .normal=>G fr H
  |e=>ek P fn c k e fr H
 | .any all fuel listed::k,e,fr,H=>match e with
  | .normal=> ∀w a σ S,b6 c w a σ S fn.ntmps fr H→wpAny P .any all (lift c fn.ntmps (ek P fn c k)) fuel listed a w
  |e=>ek P fn c k e fr H
inductive M where
 |code (c:Code) (k:List eh)
 |ops (q:Bool) (all:Array Oper) (rest:List Oper) (k:List eh)
 |any (all:Array Oper) (fuel:Nat) (listed:Array Bool) (k:List eh)
 |post (e:Exit) (k:List eh)
def o4 (n:Nat):List Oper→Bool
 |[]=>true
 |o::r=>(match o.dst with|some d=>Nat.blt d n|none=>true) && o4 n r
def ai (P:Program)(fn:Func)(c:Ctx):M→Fr→aX→Prop
 | .code qb k,fr,H=> ∀w a σ S,b6 c w a σ S fn.ntmps fr H→qb.wp P (lift c fn.ntmps (ek P fn c k)) a w
 | .ops false all rest k,fr,H=>o4 fn.ntmps rest=true→ ∀w a σ S,b6 c w a σ S fn.ntmps fr H→wpList P all (lift c fn.ntmps (ek P fn c k)) rest a w
 | .ops true all rest k,fr,H=>o4 fn.ntmps rest=true→ ∀w a σ S,b6 c w a σ S fn.ntmps fr H→
  wpQuiet P all (fun w'=> ∃m,w'=w.drewN m) (fun mc=> ∀w',(∃m,w'=w.drewN m)→lift c fn.ntmps (ek P fn c k) .normal mc w') rest a
 | .any all fuel listed k,fr,H=> ∀w a σ S,b6 c w a σ S fn.ntmps fr H→wpAny P .any all (lift c fn.ntmps (ek P fn c k)) fuel listed a w
 | .post e k,fr,H=>ek P fn c k e fr H
theorem agH {P:Program}{Q:Exit→Act→World→Prop}{a:Act}{w:World}{c:Code}{ι:Type}(b8:ι→Act→World→Prop)(xo:ι→Nat)(i0:ι)(h₀:b8 i0 a w)(round: ∀i a w,b8 i a w→c.wp P (Exit.then (fun mc w'=> ∃j,b8 j mc w'∧xo j<xo i) Q) a w):(Code.loop c).wp P Q a w:=by
 have bT:= ‹bq›;intro b k cs;have key: ∀n i a w,xo i=n→b8 i a w→
  ∃e mc w',Q e mc w'∧Arrives P (lone (b.at a (.code c:: .inLoop c::k)) cs w) b k cs e mc w':=by
  intro n;induction n using Nat.strongRecOn with
  |_ n a8=>
   intro i a w aF lx;obtain ⟨e,zC,AJ,aB,tc⟩:=round i a w lx b (.inLoop c::k) cs;cases e with
   |normal=>
    obtain ⟨j,Yu,bC⟩:=aB;obtain ⟨XW,Wv,agb,aak,YT⟩:=a8 (xo j) (aF▸bC) j zC AJ rfl Yu;exact ⟨XW,Wv,agb,aak,.of_steps (Steps.trans tc (.one step_inLoop)) YT⟩
   |exit id=>exact ⟨_,zC,AJ,aB,.pass (x:= .inLoop c) rfl (fun _ _=> .inl bZ) tc⟩
   |goto l=>exact ⟨_,zC,AJ,aB,.pass (x:= .inLoop c) rfl (fun _ _=> .inl bZ) tc⟩
   |ret=>exact ⟨_,zC,AJ,aB,.pass (x:= .inLoop c) rfl (fun _ _=> .inl bZ) tc⟩
   |panic fF=>exact ⟨_,zC,AJ,aB,.pass (x:= .inLoop c) rfl (fun _ _=> .inl bZ) tc⟩
   |outgrown=>exact ⟨_,zC,AJ,aB,.pass (x:= .inLoop c) rfl (fun _ _=> .inl bZ) tc⟩
 obtain ⟨e,mc,w',aB,tc⟩:=key _ i0 a w rfl h₀;exact ⟨e,mc,w',aB,.of_steps (.one step_loop) tc⟩
section
variable {P:Program}{fn:Func}{c:Ctx}{fr:Fr}{H:aX}{k:List eh}
theorem c6 {x y:Code}(h:ai P fn c (.code x (.code y::k)) fr H):ai P fn c (.code (.seq x y) k) fr H:=by
 intro w a σ S ad;refine wp_seq (wp_mono (h w a σ S ad) ?_);rintro e mc w' ⟨bu,bY,hT,bE,fA,aJ⟩;cases e with
 |normal=>exact aJ w' mc bu bY fA
 |exit id=>exact ⟨bu,bY,hT,bE,fA,aJ⟩
 |goto l=>exact ⟨bu,bY,hT,bE,fA,aJ⟩
 |ret=>exact ⟨bu,bY,hT,bE,fA,aJ⟩
 |panic fF=>exact ⟨bu,bY,hT,bE,fA,aJ⟩
 |outgrown=>exact ⟨bu,bY,hT,bE,fA,aJ⟩
theorem iB (h:ai P fn c (.post .normal k) fr H):ai P fn c (.code .skip k) fr H:=
 fun _ _ _ _ ad=>wp_skip ⟨_,_,_,_,ad,h⟩
theorem qB {id:Nat}(h:ai P fn c (.post (.exit id) k) fr H):ai P fn c (.code (.exit id) k) fr H:=
 fun _ _ _ _ ad=>wp_exit ⟨_,_,_,_,ad,h⟩
theorem oX (h:ai P fn c (.post .ret k) fr H):ai P fn c (.code .ret k) fr H:=
 fun _ _ _ _ ad=>wp_ret ⟨_,_,_,_,ad,h⟩
theorem fK {id:Nat}{x:Code}(h:ai P fn c (.code x (.s7 id::k)) fr H):ai P fn c (.code (.block id x) k) fr H:=by
 intro w a σ S ad;refine wp_block (wp_mono (h w a σ S ad) ?_);rintro e mc w' ⟨bu,bY,hT,bE,fA,aJ⟩;cases e with
 |exit tr=>
  simp only [Exit.inBlock];by_cases he:tr=id
  ·subst he;have rf:ek P fn c k .normal hT bE:=by simpa [ek] using aJ
   simp only [fS];exact ⟨bu,bY,hT,bE,fA,rf⟩
  ·have rf:ek P fn c k (.exit tr) hT bE:=by have ak:Nat.beq tr id=false:=db he;simpa [ek,ak] using aJ
   simp only [he,gW];exact ⟨bu,bY,hT,bE,fA,rf⟩
 |normal=>exact ⟨bu,bY,hT,bE,fA,aJ⟩
 |goto l=>exact ⟨bu,bY,hT,bE,fA,aJ⟩
 |ret=>exact ⟨bu,bY,hT,bE,fA,aJ⟩
 |panic fF=>exact ⟨bu,bY,hT,bE,fA,aJ⟩
 |outgrown=>exact ⟨bu,bY,hT,bE,fA,aJ⟩
theorem b6.drewN {w:World}{a:Act}{σ:Nat→Option bQ}{S:Nat→Prop}{n m:Nat}(h:b6 c w a σ S n fr H):b6 c (w.drewN m) a σ S n fr H:=by
 have ah: ∀{bu:Nat→Option bQ} {x v},bp w S bu x v→bp (w.drewN m) S bu x v:=fun h=>h.mono (w:=w) (w':=w.drewN m) (fun _ h=>h) (fun _ _=>rfl) _ (fun _ _ h=>h);refine ⟨⟨fun aL o aj=> ?_,h.ad.hi,h.ad.small,h.ad.hG⟩,⟨h.bh.os,h.bh.output,h.bh.tape,h.bh.size,h.bh.block,h.bh.hD,h.bh.e4,h.bh.fixed,h.bh.iY,h.bh.own⟩,h.defers,h.size,fun t v au=>⟨(h.e8 t v au).1,ah (h.e8 t v au).2⟩⟩;rcases h.ad.live aL o aj with aF|⟨b,C,cur,U,ab,aw,bg,bF,dm,fi⟩
 ·exact .inl aF
 ·exact .inr ⟨b,C,cur,U,ab.mono (w:=w) (w':=w.drewN m) I ah,aw,bg,bF,dm,fun i j aa ae=>let ⟨v,gx,a2,a3⟩:=fi i j aa ae;⟨v,gx,ah a2,a3⟩⟩
theorem yG {id:Nat}{l:List Oper}(hm:P.follows .mixedOrders=true)(cZ:Region.lexB .any l.toArray=true)(hd:o4 fn.ntmps l=true)(h:ai P fn c (.ops true l.toArray l k) fr H):ai P fn c (.code (.region id l.toArray true) k) fr H:=
 fun w a σ S ad=>wp_region_quiet_lit hm cZ (h hd w a σ S ad)
theorem c0 {id:Nat}{l:List Oper}(hd:o4 fn.ntmps l=true)(h:ai P fn c (.ops false l.toArray l k) fr H):ai P fn c (.code (.region id l.toArray false) k) fr H:=
 fun w a σ S ad=>wp_region_list (by simpa using h hd w a σ S ad)
theorem cK {q:Bool}{all:Array Oper}(h:ai P fn c (.post .normal k) fr H):ai P fn c (.ops q all [] k) fr H:=by
 cases q with
 |false=>exact fun _ _ _ _ _ ad=>wpList_nil ⟨_,_,_,_,ad,h⟩
 |true=>exact fun _ w a σ S ad=>wpQuiet_nil (fun w' ⟨m,hw⟩=>⟨σ,S,_,_,hw▸ad.drewN,h⟩)
theorem b0 {x:Code}(h:ai P fn c (.code x k) fr H):ai P fn c (.post .normal (.code x::k)) fr H:=h
theorem ld {id:Nat}(h:ai P fn c (.post .normal k) fr H):ai P fn c (.post .normal (.s7 id::k)) fr H:=h
theorem ca {G:Fr→aX→Prop}(h:G fr H):ai P fn c (.post .normal (.inv G::k)) fr H:=h
theorem qt {x:Code}{id:Nat}(h:ai P fn c (.post (.exit id) k) fr H):ai P fn c (.post (.exit id) (.code x::k)) fr H:=h
theorem rr {G:Fr→aX→Prop}{id:Nat}(h:ai P fn c (.post (.exit id) k) fr H):ai P fn c (.post (.exit id) (.inv G::k)) fr H:=h
theorem qu {id:Nat}(h:ai P fn c (.post .normal k) fr H):ai P fn c (.post (.exit id) (.s7 id::k)) fr H:=by show ek P fn c _ _ _ _;simp only [ek,ou,kZ];exact h
theorem Sf {id tr:Nat}(b2:Nat.beq tr id=false)(h:ai P fn c (.post (.exit tr) k) fr H):ai P fn c (.post (.exit tr) (.s7 id::k)) fr H:=by show ek P fn c _ _ _ _;simp only [ek,b2,nA];exact h
theorem AW {x:Code}(h:ai P fn c (.post .ret k) fr H):ai P fn c (.post .ret (.code x::k)) fr H:=h
theorem ahO {id:Nat}(h:ai P fn c (.post .ret k) fr H):ai P fn c (.post .ret (.s7 id::k)) fr H:=h
theorem ahP {G:Fr→aX→Prop}(h:ai P fn c (.post .ret k) fr H):ai P fn c (.post .ret (.inv G::k)) fr H:=h
theorem bd {vs:List al}{R:al→aX→Prop}(ay:c.R=R)(ah:sO P fr H fn.results.toList=some vs)(h:R (gK vs) H):ai P fn c (.post .ret []) fr H:=
 ⟨.inr rfl,vs,ah,ay▸h⟩
theorem NS {vs:List al}{R:al→aX→Prop}(ay:c.R=R)(ah:sO P fr H fn.results.toList=some vs)(h:R (gK vs) H):ai P fn c (.post .normal []) fr H:=
 ⟨.inl rfl,vs,ah,ay▸h⟩
def yw:Value→Option al
 | .int k n=>some (.int k n)
 | .bool b=>some (.bool b)
 | .string s=>some (.str s.data.toList)
 | .slice none 0 0=>some .nil
 | .pointer none=>some .oP
 | .nilFunc=>some .oO
 | .nilIface=>some .nd
 |_=>none
def Dc:List Value→Option (List al)
 |[]=>some []
 |v::r=>match yw v with
  |some a=>match Dc r with
   |some l=>some (a::l)
   |none=>none
  |none=>none
def zE:Value→Option al
 | .agg cs=>match Dc cs.toList with
  |some l=>some (.agg l)
  |none=>none
 |v=>yw v
def bA (fr:Fr):Operand→Option al
 | .tmp t=>look t fr
 | .const v=>zE v
 | .global _=>none
 | .func f=>some (.fn f [])
theorem NC {w:World}{S:Nat→Prop}{σ:Nat→Option bQ}{x:Value}{v:al}(h:yw x=some v):bp w S σ v x∧x.oneCell'=true:=by
 have bT:= ‹bq›;cases x with
 |int k n=>cases h;exact ⟨.int _ _ _,rfl⟩
 |bool b=>cases h;exact ⟨.bool _ _,rfl⟩
 |string s=>cases h;exact ⟨bp.str σ s.data.toList,rfl⟩
 |slice iV len cap=>
  cases iV with
  |none=>
   cases len with
   |zero=>cases cap with
    |zero=>cases h;exact ⟨.nil _,rfl⟩
    |succ _=>cases h
   |succ _=>cases h
  |some _=>cases h
 |pointer p=>cases p with
  |none=>cases h;exact ⟨.oP _,rfl⟩
  |some _=>cases h
 |nilFunc=>cases h;exact ⟨.oO _,rfl⟩
 |nilIface=>cases h;exact ⟨.nd _,rfl⟩
 |_=>cases h
theorem VT {w:World}{S:Nat→Prop}{σ:Nat→Option bQ}: ∀{cs:List Value} {l:List al},Dc cs=some l→cs.length=l.length∧ ∀i,i<l.length→bp w S σ (l.getD i .any) (cs.getD i undef)∧(cs.getD i undef).oneCell'=true
 |[],l,h=>by simp [Dc] at h;subst h;exact ⟨rfl,fun i aa=>by simp at aa⟩
 |v::r,l,h=>by
  simp only [Dc] at h;split at h
  ·rename_i a a1;split at h
   ·rename_i q aB;simp only [dy] at h;subst h;obtain ⟨i1,i2⟩:=VT (w:=w) (S:=S) (σ:=σ) aB;refine ⟨by simp [i1],fun i aa=> ?_⟩;cases i with
    |zero=>exact NC a1
    |succ i=>simpa using i2 i (by simpa using aa)
   ·cases h
  ·cases h
theorem afT {w:World}{S:Nat→Prop}{σ:Nat→Option bQ}{x:Value}{v:al}(h:zE x=some v):bp w S σ v x:=by
 unfold zE at h;split at h
 ·rename_i cs;split at h
  ·rename_i l au;simp only [dy] at h;subst h;obtain ⟨i1,i2⟩:=VT (w:=w) (S:=S) (σ:=σ) au;have ax:cs.size=l.length:=by simpa using i1
   have e: ∀i,i<l.length→cs.toList.getD i undef=cs.getD i undef:=fun i aa=>by simp [List.getD,Array.getD,ax,aa]
   exact .agg _ _ _ ax (fun i aa=>by rw [←e i aa];exact (i2 i aa).1) (fun i aa=>by rw [←e i aa];exact (i2 i aa).2)
  ·cases h
 ·exact (NC h).1
theorem b6.dN {w:World}{a:Act}{σ:Nat→Option bQ}{S:Nat→Prop}{n:Nat}(h:b6 c w a σ S n fr H){o:Operand}{v:al}(ah:ai.bA fr o=some v):bp w S σ v (a.eval o):=by
 cases o with
 |tmp t=>exact (h.e8 t v ah).2
 |const x=>exact afT ah
 |global g=>cases ah
 |func f=>cases ah;exact .fn _ _ _ #[] rfl (fun i aa=>by simp at aa)
theorem b6.put {w:World}{a:Act}{σ:Nat→Option bQ}{S:Nat→Prop}{n d:Nat}{v:al}{x:Value}(h:b6 c w a σ S n fr H)(ah:bp w S σ v x)(hd:d<n):b6 c w (a.put (some d) x) σ S n ((d,v)::fr) H:=by
 refine ⟨h.ad,h.bh,h.defers,by simpa [Act.put] using h.size,fun t y au=> ?_⟩;simp only [look] at au;by_cases he:t=d
 ·subst he;simp only [ou,kZ,dy] at au;subst au;refine ⟨hd,?_⟩;have:t<a.tmps.size:=by rw [h.size];exact hd
  simpa [Act.put,this] using ah
 ·simp only [db he,nA] at au;obtain ⟨U,ab⟩:=h.e8 t y au;refine ⟨U,?_⟩;have: ¬d=t:=fun e=>he e.symm;simpa [Act.put,zl,this] using ab
def bV (ind:Bool)(P:Program)(fn:Func)(c:Ctx)(fr:Fr)(H:aX)(o:Oper)(v:al):Prop:=
 ∀w a σ S,b6 c w a σ S fn.ntmps fr H→ ∃x,bp w S σ v x∧ ∀w',(ind=true∨w'.heap=w.heap)→(execOp a.eval o).run P w'= .ok (.value x) w'
theorem sI {n:Nat}{o:Oper}{r:List Oper}(h:o4 n (o::r)=true):(∀d,o.dst=some d→d<n)∧o4 n r=true:=by have bT:= ‹bq›;simp only [o4,ei] at h;refine ⟨fun d hd=> ?_,h.2⟩;have U:=h.1;rw [hd] at U;exact ir U
theorem an {q:Bool}{all:Array Oper}{d:Nat}{op:Op}{ty:TypeId}{pos:String}{after:Array Edge}{rest:List Oper}{v:al}(pF:bV false P fn c fr H ⟨some d,op,ty,pos,after,none⟩ v)(h:ai P fn c (.ops q all rest k) ((d,v)::fr) H):ai P fn c (.ops q all (⟨some d,op,ty,pos,after,none⟩::rest) k) fr H:=by
 cases q with
 |false=>
  intro hd w a σ S ad;obtain ⟨iK,jF⟩:=sI hd;obtain ⟨x,ar,ez⟩:=pF w a σ S ad;refine wpList_step (fun K dn=> ?_);simp only [Region.wanted,fS];unfold Oper.wp;rw [ez w (.inr rfl)];exact dn _ _ (h jF w _ σ S (ad.put ar (iK d I)))
 |true=>
  intro hd w a σ S ad;obtain ⟨iK,jF⟩:=sI hd;obtain ⟨x,ar,ez⟩:=pF w a σ S ad;refine wpQuiet_step (fun K dn=> ?_);simp only [Region.wanted,fS];refine ⟨x,fun w' hw=> ?_,dn _ (h jF w _ σ S (ad.put ar (iK d I)))⟩;obtain ⟨m,rfl⟩:=hw;unfold Oper.quietAt;rw [ez (w.drewN m) (.inr rfl)];exact ⟨I,I⟩
theorem AT {fF:List PanicEntry}: ∀(k:List eh),ek P fn c k (.panic fF) fr H→False
 |[],h=>by rcases h with ⟨h|h,_⟩<;>cases h
 | .code _::k,h=>AT k h
 | .s7 _::k,h=>AT k h
 | .scope::k,h=>AT k h
 | .inv _::k,h=>AT k h
 | .any _ _ _::k,h=>AT k h
theorem eN {id:Nat}{l:List Oper}(hm:P.follows .mixedOrders=true)(h:ai P fn c (.any l.toArray l.length (Array.replicate l.length false) k) fr H):ai P fn c (.code (.region id l.toArray true) k) fr H:=by intro w a σ S ad;refine wp_region_any hm ?_;have ab:=h (w.drewN 1) a σ S ad.drewN;have e:l.toArray.size=l.length:=bZ;rw [e];exact ab
theorem eM {all:Array Oper}{fuel:Nat}{listed:Array Bool}(ad:Region.ready .any all listed=[])(h:ai P fn c (.post .normal k) fr H):ai P fn c (.any all fuel listed k) fr H:=by
 intro w a σ S jI;cases fuel with
 |zero=>exact ⟨ad,_,_,_,_,jI,h⟩
 |succ f=>
  refine ⟨fun _=>⟨_,_,_,_,jI,h⟩,fun i aa=> ?_⟩;rw [ad] at aa;cases aa
theorem bJ {all:Array Oper}{fuel:Nat}{listed Au:Array Bool}(i:Nat){d:Nat}{op:Op}{ty:TypeId}{pos:String}{after:Array Edge}{v:al}(aa:all[i]? =some ⟨some d,op,ty,pos,after,none⟩)(aar:Region.noSelect all=true)(aal:(Region.ready .any all listed).contains i=true)(JN:Region.free .any all listed i=true)(hd:Nat.blt d fn.ntmps=true)(pF:bV true P fn c fr H ⟨some d,op,ty,pos,after,none⟩ v)(au:listed.setIfInBounds i true=Au)(h:ai P fn c (.any all fuel Au k) ((d,v)::fr) H):ai P fn c (.any all (fuel+1) listed k) fr H:=by
 intro w a σ S ad;subst au;obtain ⟨x,ar,ez⟩:=pF w a σ S ad;refine wpAny_first aa (Region.noSelect_spec aar) ?_ fuel listed a w (Region.free_spec aa JN) (by simpa using aal) (v:=x) ?_ (h w _ σ S (ad.put ar (ir hd)))
 ·rintro fF mc w' ⟨_,_,_,_,_,aJ⟩;exact (AT _ aJ).elim
 ·exact .inl ⟨I,fun w'=>ez w' (.inl I)⟩
def EB (P:Program)(fn:Func)(c:Ctx)(all:Array Oper)(fuel:Nat)(listed:Array Bool)(k:List eh)(fr:Fr)(H:aX):List Nat→Prop
 |[]=>True
 |i::r=>(∀o,all[i]? =some o→ai P fn c (.ops false all [o] (.any all fuel (listed.setIfInBounds i true)::k)) fr H)∧EB P fn c all fuel listed k fr H r
theorem Wg {all:Array Oper}{fuel:Nat}{listed:Array Bool}{is:List Nat}(h:EB P fn c all fuel listed k fr H is){i:Nat}(aa:i∈is){o:Oper}(aj:all[i]? =some o):ai P fn c (.ops false all [o] (.any all fuel (listed.setIfInBounds i true)::k)) fr H:=by
 induction is with
 |nil=>cases aa
 |cons j r a8=>
  rcases fT.1 aa with rfl|aa
  ·exact h.1 o aj
  ·exact a8 h.2 aa
theorem akt {o:Oper}{a:Act}{K gm:Act→World→Prop}{Q IC:Exit→Act→World→Prop}(dn: ∀a w,K a w→gm a w)(aJ: ∀fF a w,Q (.panic fF) a w→IC (.panic fF) a w)(aj:LetsOut Q→LetsOut IC){r:Result Next}(h:o.upon P a K Q r):o.upon P a gm IC r:=by
 have bT:= ‹bq›;unfold Oper.upon at*;split at h
 ·exact dn _ _ h
 ·exact dn _ _ h
 ·exact dn _ _ h
 ·refine Calls.mono h fun e afU he=> ?_;cases e with
  |returned v=>exact dn _ _ he
  |panicked fF=>exact aJ _ _ _ he
  |outgrown=>exact aj he
 ·exact Rows.mono h fun v afU he=>dn _ _ he
 ·exact aJ _ _ _ h
 ·exact h.elim
theorem vk {all:Array Oper}{fuel:Nat}{listed:Array Bool}{is:List Nat}(ad:Region.ready .any all listed=is)(b2:is≠[])(hd:o4 fn.ntmps all.toList=true)(h:EB P fn c all fuel listed k fr H is):ai P fn c (.any all (fuel+1) listed k) fr H:=by
 intro w a σ S jI;refine ⟨fun aO=>absurd (ad▸aO) b2,fun i aa=> ?_⟩;rw [ad] at aa;unfold wpOp;split
 ·rename_i aF;rw [←ad] at aa;obtain ⟨_,o,aj,_⟩:=mem_ready.1 aa;rw [aF] at aj;cases aj
 ·rename_i o aj;have U:=Wg h aa aj;have iK:o4 fn.ntmps [o]=true:=by
   have ej:o∈all.toList:=by simpa using Array.mem_of_getElem? aj
   clear U h;generalize all.toList=l at hd ej;induction l with
   |nil=>cases ej
   |cons x r a8=>
    simp only [o4,ei] at hd⊢;rcases fT.1 ej with rfl|hm
    ·exact ⟨hd.1,trivial⟩
    ·have:=a8 hd.2 hm;simp only [o4,ei] at this;exact this
  have ab:=U iK w a σ S jI;have Ag: ∀a w,lift c fn.ntmps (ek P fn c (.any all fuel (listed.setIfInBounds i true)::k)) .normal a w→wpAny P .any all (lift c fn.ntmps (ek P fn c k)) fuel (listed.setIfInBounds i true) a w:=by rintro a w ⟨bu,bY,hT,bE,fA,aJ⟩;exact aJ w a bu bY fA
  unfold wpList at ab;split
  ·rename_i hw;rw [aG hw] at ab;rcases ab with ab|⟨a1,au⟩
   ·left;unfold Oper.wp at*;exact akt Ag (fun _ _ _ h=>h) (fun h=>h) ab
   ·exact .inr ⟨a1,au⟩
  ·rename_i hw;rw [az hw] at ab;exact Ag _ _ ab
theorem kL {all:Array Oper}{fuel:Nat}{listed:Array Bool}(h:ai P fn c (.any all fuel listed k) fr H):ai P fn c (.post .normal (.any all fuel listed::k)) fr H:=h
def pS (all:Array Oper)(j:Nat):Option Nat:=(all[j]?).bind (·.dst)
theorem Hs {w:World}{a:Act}{σ:Nat→Option bQ}{S:Nat→Prop}{n:Nat}(ad:b6 c w a σ S n fr H){all:Array Oper}{d:Option Nat}{op:Op}{ty:TypeId}{pos:String}{after:Array Edge}{j t:Nat}{p b:Bool}(aY:pS all j=some t)(ak:look t fr=some (.bool b)):Region.wanted ⟨d,op,ty,pos,after,some (j,p)⟩ (yielded all a.tmps)=(b==p):=by
 obtain ⟨U,ab⟩:=ad.e8 t _ ak;have aw:t<a.tmps.size:=by rw [ad.size];exact U
 generalize bw:a.tmps.getD t undef=z at ab;cases ab;have bg:a.tmps[t]? =some (.bool b):=by simp only [Array.getD,aw,uv] at bw;simp only [Array.getElem?_eq_getElem aw];exact congrArg some bw
 unfold pS at aY;simp only [Region.wanted,yielded,aY,Option.bind_some,bg];cases b<;>cases p<;>rfl
theorem lf {q:Bool}{all:Array Oper}{d:Option Nat}{op:Op}{ty:TypeId}{pos:String}{after:Array Edge}{rest:List Oper}{j t:Nat}{p:Bool}(aY:pS all j=some t)(ak:look t fr=some (.bool p))(h:ai P fn c (.ops q all (⟨d,op,ty,pos,after,none⟩::rest) k) fr H):ai P fn c (.ops q all (⟨d,op,ty,pos,after,some (j,p)⟩::rest) k) fr H:=by
 cases q with
 |false=>
  intro hd w a σ S ad;have U:=h hd w a σ S ad;simp only [wpList,Hs ad aY ak,beq_self_eq_true,fS];simp only [wpList,Region.wanted,fS] at U;exact U
 |true=>
  intro hd w a σ S ad;have U:=h hd w a σ S ad;simp only [wpQuiet,Hs ad aY ak,beq_self_eq_true,fS];simp only [wpQuiet,Region.wanted,fS] at U;exact U
theorem b6.dup {w:World}{a:Act}{σ:Nat→Option bQ}{S:Nat→Prop}{n t:Nat}{v:al}(h:b6 c w a σ S n fr H)(au:look t fr=some v):b6 c w a σ S n ((t,v)::fr) H:=by
 refine ⟨h.ad,h.bh,h.defers,h.size,fun u y aY=> ?_⟩;simp only [look] at aY;by_cases he:u=t
 ·subst he;simp only [ou,kZ,dy] at aY;subst aY;exact h.e8 u v au
 ·simp only [db he,nA] at aY;exact h.e8 u y aY
theorem Wu {q:Bool}{all:Array Oper}{rest:List Oper}(t:Nat){b:Bool}(ak:look t fr=some (.bool b))(bs:b=true→ai P fn c (.ops q all rest k) ((t,.bool true)::fr) H)(aN:b=false→ai P fn c (.ops q all rest k) ((t,.bool false)::fr) H):ai P fn c (.ops q all rest k) fr H:=by
 cases b with
 |true=>cases q with
  |true=>exact fun hd w a σ S ad=>bs rfl hd w a σ S (ad.dup ak)
  |false=>exact fun hd w a σ S ad=>bs rfl hd w a σ S (ad.dup ak)
 |false=>cases q with
  |true=>exact fun hd w a σ S ad=>aN rfl hd w a σ S (ad.dup ak)
  |false=>exact fun hd w a σ S ad=>aN rfl hd w a σ S (ad.dup ak)
theorem agJ {q:Bool}{all:Array Oper}{rest:List Oper}(t:Nat){p:Prop}{_:Decidable p}(ak:look t fr=some (.bool (decide p)))(bs:p→ai P fn c (.ops q all rest k) ((t,.bool true)::fr) H)(aN: ¬p→ai P fn c (.ops q all rest k) ((t,.bool false)::fr) H):ai P fn c (.ops q all rest k) fr H:=
 Wu t ak (fun h=>bs (zm h)) (fun h=>aN (of_decide_eq_false h))
theorem qs {o:Operand}{x y:Code}(av:bA fr o=some (.bool true))(h:ai P fn c (.code x k) fr H):ai P fn c (.code (.cond o x y) k) fr H:=by intro w a σ S ad;have:=ad.dN av;generalize bw:a.eval o=z at this;cases this;exact wp_cond_true bw (h w a σ S ad)
theorem ni {o:Operand}{x y:Code}(av:bA fr o=some (.bool false))(h:ai P fn c (.code y k) fr H):ai P fn c (.code (.cond o x y) k) fr H:=by intro w a σ S ad;have:=ad.dN av;generalize bw:a.eval o=z at this;cases this;exact wp_cond_false bw (h w a σ S ad)
theorem tT {o:Operand}{x y:Code}{b:Bool}(av:bA fr o=some (.bool b))(bs:b=true→ai P fn c (.code x k) fr H)(aN:b=false→ai P fn c (.code y k) fr H):ai P fn c (.code (.cond o x y) k) fr H:=by
 cases b
 ·exact ni av (aN I)
 ·exact qs av (bs I)
theorem bB {o:Operand}{x y:Code}{p:Prop}{_:Decidable p}(av:bA fr o=some (.bool (decide p)))(bs:p→ai P fn c (.code x k) fr H)(aN: ¬p→ai P fn c (.code y k) fr H):ai P fn c (.code (.cond o x y) k) fr H:=
 tT av (fun h=>bs (zm h)) (fun h=>aN (of_decide_eq_false h))
def j8 (fr:Fr):List (Nat×al)→Prop
 |[]=>True
 |(t,v)::r=>look t fr=some v∧j8 fr r
theorem DA {fr L:Fr}{t:Nat}{v:al}(h:j8 fr L)(au:look t L=some v):look t fr=some v:=by
 have bT:= ‹bq›;induction L with
 |nil=>simp [look] at au
 |cons p r a8=>
  obtain ⟨u,x⟩:=p;obtain ⟨U,ab⟩:=h;simp only [look] at au;by_cases he:t=u
  ·subst he;simp at au;subst au;exact U
  ·have ak:Nat.beq t u=false:=db he;simp [ak] at au;exact a8 ab au
theorem b6.weaken {w:World}{a:Act}{σ:Nat→Option bQ}{S:Nat→Prop}{n:Nat}{L:Fr}(h:b6 c w a σ S n fr H)(ao:j8 fr L):b6 c w a σ S n L H:=
 ⟨h.ad,h.bh,h.defers,h.size,fun t v au=>h.e8 t v (DA ao au)⟩
theorem cJ {ι:Type}{x:Code}(Gb:ι→Fr)(aJ:ι→aX)(b8:ι→Prop)(xo:ι→Nat)(i0:ι)(aO:j8 fr (Gb i0)∧H=aJ i0∧b8 i0)(round: ∀i,b8 i→ai P fn c (.code x (.inv (fun hT bE=> ∃j,b8 j∧xo j<xo i∧j8 hT (Gb j)∧bE=aJ j)::k)) (Gb i) (aJ i)):
 ai P fn c (.code (.loop x) k) fr H:=by
 intro w a σ S ad;refine agH (c:=x) (fun j a w=>b8 j∧ ∃σ S,b6 c w a σ S fn.ntmps (Gb j) (aJ j)) xo i0 ⟨aO.2.2,σ,S,?_⟩ ?_
 ·have:=ad.weaken aO.1;rw [aO.2.1] at this;exact this
 ·rintro i a w ⟨aa,σ,S,ad⟩;refine wp_mono (round i aa w a σ S ad) ?_;rintro e mc w' ⟨bu,bY,hT,bE,fA,rf⟩;cases e with
  |normal=>
   obtain ⟨j,ae,hm,ao,rfl⟩:=rf;exact ⟨j,⟨ae,bu,bY,fA.weaken ao⟩,hm⟩
  |exit id=>exact ⟨bu,bY,hT,bE,fA,rf⟩
  |goto l=>exact ⟨bu,bY,hT,bE,fA,rf⟩
  |ret=>exact ⟨bu,bY,hT,bE,fA,rf⟩
  |panic fF=>exact ⟨bu,bY,hT,bE,fA,rf⟩
  |outgrown=>exact ⟨bu,bY,hT,bE,fA,rf⟩
end
end Go.ai
namespace Go.ai
variable [bq]
open Go.RowKit
section
variable {ind:Bool}{P:Program}{fn:Func}{c:Ctx}{fr:Fr}{H:aX}
theorem b6.eZ {w:World}{a:Act}{σ:Nat→Option bQ}{S:Nat→Prop}{n:Nat}(h:b6 c w a σ S n fr H){o:Operand}{k:IntKind}{x:Int}(ah:bA fr o=some (.int k x)):a.eval o= .int k x:=by have:=h.dN ah;generalize a.eval o=z at this;cases this;rfl
theorem b6.zJ {w:World}{a:Act}{σ:Nat→Option bQ}{S:Nat→Prop}{n:Nat}(h:b6 c w a σ S n fr H){o:Operand}{x:Bool}(ah:bA fr o=some (.bool x)):a.eval o= .bool x:=by have:=h.dN ah;generalize a.eval o=z at this;cases this;rfl
theorem b6.uO {w:World}{a:Act}{σ:Nat→Option bQ}{S:Nat→Prop}{n:Nat}(h:b6 c w a σ S n fr H){o:Operand}{x:List UInt8}(ah:bA fr o=some (.str x)):a.eval o=oh x:=by have:=h.dN ah;generalize a.eval o=z at this;cases this;rfl
variable {d:Option Nat}{ty:TypeId}{pos:String}{after:Array Edge}{g:Option (Nat×Bool)}
theorem D9 (s:List UInt8):(⟨s.toArray⟩:ByteArray).size=s.length:=by have bT:= ‹bq›;show s.toArray.size=_;simp
theorem bL {x:Operand}{v:al}(ar:bA fr x=some v):bV ind P fn c fr H ⟨d,.move x,ty,pos,after,g⟩ v:=
 fun _ a _ _ ad=>⟨a.eval x,ad.dN ar,fun _ _=>rfl⟩
theorem dr {x:Operand}{v:al}(ar:bA fr x=some v):bV ind P fn c fr H ⟨d,.assign x,ty,pos,after,g⟩ v:=
 fun _ a _ _ ad=>⟨a.eval x,ad.dN ar,fun _ _=>rfl⟩
theorem lF {x y z:Operand}{b:Bool}{v:al}(ar:bA fr x=some (.bool b))(ah:(bif b then bA fr y else bA fr z)=some v):bV ind P fn c fr H ⟨d,.pick x y z,ty,pos,after,g⟩ v:=by
 intro w a σ S ad;have U:=ad.zJ ar;cases b with
 |true=>exact ⟨a.eval y,ad.dN ah,fun w' _=>by simp [execOp,U,asBool]⟩
 |false=>exact ⟨a.eval z,ad.dN ah,fun w' _=>by simp [execOp,U,asBool]⟩
theorem nh {op:BinOp}{t:TypeId}{x y:Operand}{k cP:IntKind}{m n:Int}{w:World}:(eqGuard op t x y (.int k m) (.int cP n)).run P w= .ok () w:=by have bT:= ‹bq›;unfold eqGuard;split<;>rfl
theorem hl {x y:Operand}{t cr:TypeId}{m n:Int}(ar:bA fr x=some (.int .i64 m))(aY:bA fr y=some (.int .i64 n))(ak: -9223372036854775808≤m+n∧m+n≤9223372036854775807):
 bV ind P fn c fr H ⟨d,.binOp .add t x y cr,ty,pos,after,g⟩ (.int .i64 (m+n)):=by intro w a σ S ad;have U:=ad.eZ ar;have ab:=ad.eZ aY;refine ⟨_,.int _ _ _,fun w' _=> ?_⟩;have aw:IntKind.i64.wrap (m+n)=m+n:=IntWalk.i64_in _ ak;simp [execOp,U,ab,nh,binOp,Op.intArith,aw]
theorem qJ {x y:Operand}{t cr:TypeId}{m n:Int}(ar:bA fr x=some (.int .i64 m))(aY:bA fr y=some (.int .i64 n))(ak: -9223372036854775808≤m-n∧m-n≤9223372036854775807):
 bV ind P fn c fr H ⟨d,.binOp .sub t x y cr,ty,pos,after,g⟩ (.int .i64 (m-n)):=by intro w a σ S ad;have U:=ad.eZ ar;have ab:=ad.eZ aY;refine ⟨_,.int _ _ _,fun w' _=> ?_⟩;have aw:IntKind.i64.wrap (m-n)=m-n:=IntWalk.i64_in _ ak;simp [execOp,U,ab,nh,binOp,Op.intArith,aw]
theorem Gq {x y:Operand}{t cr:TypeId}{m n:Int}(ar:bA fr x=some (.int .i64 m))(aY:bA fr y=some (.int .i64 n))(ak: -9223372036854775808≤m*n∧m*n≤9223372036854775807):
 bV ind P fn c fr H ⟨d,.binOp .mul t x y cr,ty,pos,after,g⟩ (.int .i64 (m*n)):=by intro w a σ S ad;have U:=ad.eZ ar;have ab:=ad.eZ aY;refine ⟨_,.int _ _ _,fun w' _=> ?_⟩;have aw:IntKind.i64.wrap (m*n)=m*n:=IntWalk.i64_in _ ak;simp [execOp,U,ab,nh,binOp,Op.intArith,aw]
theorem Nn {op:BinOp}{x y:Operand}{t cr:TypeId}{k:IntKind}{m n:Int}(ar:bA fr x=some (.int k m))(aY:bA fr y=some (.int k n)){r:Int}(aj:(match op with| .add=>some (k.wrap (m+n))| .sub=>some (k.wrap (m-n))| .mul=>some (k.wrap (m*n))|_=>none)=some r):
 bV ind P fn c fr H ⟨d,.binOp op t x y cr,ty,pos,after,g⟩ (.int k r):=by intro w a σ S ad;have U:=ad.eZ ar;have ab:=ad.eZ aY;refine ⟨_,.int _ _ _,fun w' _=> ?_⟩;cases op<;>simp at aj<;>subst aj<;>simp [execOp,U,ab,nh,binOp,Op.intArith]
theorem adt {x y:Operand}{t cr:TypeId}{m n:Int}(ar:bA fr x=some (.int .i64 m))(aY:bA fr y=some (.int .i64 n))(ak:0≤m∧m≤9223372036854775807∧0<n):
 bV ind P fn c fr H ⟨d,.binOp .quo t x y cr,ty,pos,after,g⟩ (.int .i64 (m/n)):=by intro w a σ S ad;have U:=ad.eZ ar;have ab:=ad.eZ aY;refine ⟨_,.int _ _ _,fun w' _=> ?_⟩;have aF: ¬n=0:=J;have bg:m.tdiv n=m/n:=Int.tdiv_eq_ediv_of_nonneg ak.1;have bF:0≤m/n:=Int.ediv_nonneg ak.1 J;have dm:m/n≤m:=Int.ediv_le_self _ ak.1;have aw:IntKind.i64.wrap (m/n)=m/n:=IntWalk.i64_in _ ⟨J,J⟩;simp [execOp,U,ab,nh,binOp,Op.intDiv,aF,bg,aw]
theorem adv {x y:Operand}{t cr:TypeId}{k:IntKind}{m n:Int}(ar:bA fr x=some (.int k m))(aY:bA fr y=some (.int k n))(ak:0≤m∧ ¬n=0):
 bV ind P fn c fr H ⟨d,.binOp .rem t x y cr,ty,pos,after,g⟩ (.int k (m%n)):=by intro w a σ S ad;have U:=ad.eZ ar;have ab:=ad.eZ aY;refine ⟨_,.int _ _ _,fun w' _=> ?_⟩;have bg:m.tmod n=m%n:=Int.tmod_eq_emod_of_nonneg ak.1;simp [execOp,U,ab,nh,binOp,Op.intDiv,ak.2,bg]
theorem adu {x y:Operand}{t cr:TypeId}{k:IntKind}{m n:Int}(ar:bA fr x=some (.int k m))(aY:bA fr y=some (.int k n))(ak: ¬n=0):
 bV ind P fn c fr H ⟨d,.binOp .quo t x y cr,ty,pos,after,g⟩ (.int k (k.wrap (m.tdiv n))):=by intro w a σ S ad;have U:=ad.eZ ar;have ab:=ad.eZ aY;refine ⟨_,.int _ _ _,fun w' _=> ?_⟩;simp [execOp,U,ab,nh,binOp,Op.intDiv,ak]
instance (m n:Int):Decidable (¬m=n):=inferInstance
section
variable {x y:Operand}{t cr:TypeId}{k:IntKind}{m n:Int}(ar:bA fr x=some (.int k m))(aY:bA fr y=some (.int k n))
include ar aY
theorem ob:bV ind P fn c fr H ⟨d,.binOp .eql t x y cr,ty,pos,after,g⟩ (.bool (decide (m=n))):=by intro w a σ S ad;refine ⟨_,.bool _ _,fun w' _=> ?_⟩;simp [execOp,ad.eZ ar,ad.eZ aY,nh,binOp,Op.intCmp];rfl
theorem sN:bV ind P fn c fr H ⟨d,.binOp .neq t x y cr,ty,pos,after,g⟩ (.bool (decide (¬m=n))):=by intro w a σ S ad;refine ⟨_,.bool _ _,fun w' _=> ?_⟩;simp [execOp,ad.eZ ar,ad.eZ aY,nh,binOp,Op.intCmp];by_cases h:m=n<;>simp [h]
theorem qI:bV ind P fn c fr H ⟨d,.binOp .lss t x y cr,ty,pos,after,g⟩ (.bool (decide (m<n))):=by intro w a σ S ad;refine ⟨_,.bool _ _,fun w' _=> ?_⟩;simp [execOp,ad.eZ ar,ad.eZ aY,nh,binOp,Op.intCmp]
theorem QE:bV ind P fn c fr H ⟨d,.binOp .leq t x y cr,ty,pos,after,g⟩ (.bool (decide (m≤n))):=by intro w a σ S ad;refine ⟨_,.bool _ _,fun w' _=> ?_⟩;simp [execOp,ad.eZ ar,ad.eZ aY,nh,binOp,Op.intCmp]
theorem BM:bV ind P fn c fr H ⟨d,.binOp .gtr t x y cr,ty,pos,after,g⟩ (.bool (decide (n<m))):=by intro w a σ S ad;refine ⟨_,.bool _ _,fun w' _=> ?_⟩;simp [execOp,ad.eZ ar,ad.eZ aY,nh,binOp,Op.intCmp]
theorem zd:bV ind P fn c fr H ⟨d,.binOp .geq t x y cr,ty,pos,after,g⟩ (.bool (decide (n≤m))):=by intro w a σ S ad;refine ⟨_,.bool _ _,fun w' _=> ?_⟩;simp [execOp,ad.eZ ar,ad.eZ aY,nh,binOp,Op.intCmp]
end
theorem uj {x:Operand}{t:TypeId}{b:Bool}(ar:bA fr x=some (.bool b)):bV ind P fn c fr H ⟨d,.unOp .not t x,ty,pos,after,g⟩ (.bool (!b)):=by intro w a σ S ad;refine ⟨_,.bool _ _,fun w' _=> ?_⟩;simp [execOp,ad.zJ ar,Op.unary]
theorem QG {x:Operand}{t:TypeId}{m:Int}(ar:bA fr x=some (.int .i64 m))(ak: -9223372036854775807≤m∧m≤9223372036854775807):bV ind P fn c fr H ⟨d,.unOp .neg t x,ty,pos,after,g⟩ (.int .i64 (-m)):=by
 intro w a σ S ad;refine ⟨_,.int _ _ _,fun w' _=> ?_⟩;have aw:IntKind.i64.wrap (0-m)= -m:=by rw [IntWalk.i64_in _ ⟨J,J⟩];omega
 simp [execOp,ad.eZ ar,Op.unary,Op.intArith];simpa using aw
theorem Nz {x:Operand}{src dst:TypeId}{k cP:IntKind}{u:TypeDesc}{m:Int}(ax:P.underlying src=some u)(hd:P.underlying dst=some (.int cP))(ar:bA fr x=some (.int k m)):
 bV ind P fn c fr H ⟨d,.convert src dst x,ty,pos,after,g⟩ (.int cP (cP.wrap m)):=by intro w a σ S ad;refine ⟨_,.int _ _ _,fun w' _=> ?_⟩;cases u<;>simp [execOp,ad.eZ ar,convert,run_underlying ax,run_underlying hd,Conv.intToInt]
theorem Bi {x:Operand}{src dst:TypeId}{k:IntKind}{u:TypeDesc}{m:Int}(ax:P.underlying src=some u)(hd:P.underlying dst=some (.int .i64))(ar:bA fr x=some (.int k m))(ak: -9223372036854775808≤m∧m≤9223372036854775807):
 bV ind P fn c fr H ⟨d,.convert src dst x,ty,pos,after,g⟩ (.int .i64 m):=by
 have aw:IntKind.i64.wrap m=m:=IntWalk.i64_in _ ak;have:=Nz (ind:=ind) (P:=P) (fn:=fn) (c:=c) (fr:=fr) (H:=H) (d:=d) (ty:=ty) (pos:=pos) (after:=after) (g:=g) (x:=x) (src:=src) (dst:=dst) ax hd ar
 rwa [aw] at this
theorem nm {x:Operand}{i:Nat}{l:List al}{v:al}(ar:bA fr x=some (.cd l))(ah:l[i]? =some v):bV ind P fn c fr H ⟨d,.extract x i,ty,pos,after,g⟩ v:=by
 intro w a σ S ad;have U:=ad.dN ar;generalize bw:a.eval x=z at U;cases U with
 |cd _ _ vs au oN=>
  have aa:i<l.length:=(gL.1 ah).1;have ab:=oN i aa;have aw:l.getD i .any=v:=by simp [List.getD,ah]
  rw [aw] at ab;have bg:vs[i]? =some (vs.getD i undef):=by simp [Array.getD,au,aa]
  generalize vs.getD i undef=y at ab bg;refine ⟨y,ab,fun w' _=> ?_⟩;simp [execOp,bw,Instr.extract,bg]
theorem gC {x:Operand}{t:TypeId}{e:TypeId}{v:al}{n:Nat}(bs:P.underlying t=some (.slice e))(ar:bA fr x=some v)(aF:(match v with| .ro _ _ n=>some n| .aA _ _ n=>some n| .nil=>some 0|_=>none)=some n):
 bV ind P fn c fr H ⟨d,.call {callee:= .builtin .len,args:= #[x],argTypes:= #[t]},ty,pos,after,g⟩ (.int .i64 n):=by intro w a σ S ad;have U:=ad.dN ar;generalize bw:a.eval x=z at U;refine ⟨_,.int _ _ _,fun w' _=> ?_⟩;cases U<;>simp at aF<;>subst aF<;>simp [execOp,resolve,bw,invoke,builtin,Builtin.len_,run_underlying bs,goInt]
theorem Bj {x:Operand}{t:TypeId}{s:List UInt8}(bs:P.underlying t=some .string)(ar:bA fr x=some (.str s)):
 bV ind P fn c fr H ⟨d,.call {callee:= .builtin .len,args:= #[x],argTypes:= #[t]},ty,pos,after,g⟩ (.int .i64 s.length):=by intro w a σ S ad;have U:=ad.uO ar;refine ⟨_,.int _ _ _,fun w' _=> ?_⟩;have ab:(⟨s.toArray⟩:ByteArray).size=s.length:=D9 s;simp [execOp,resolve,U,oh,invoke,builtin,Builtin.len_,run_underlying bs,goInt,ab]
theorem aiw {x i:Operand}{t e:TypeId}{dG:Cells}{o len:Nat}{k:IntKind}{m:Int}(bs:P.underlying t=some (.slice e))(ax:(P.info? e).map (·.size)=some dG.aC)(ar:bA fr x=some (.ro dG o len))(aa:bA fr i=some (.int k m))(ak:0≤m∧m<len):
 bV ind P fn c fr H ⟨d,.indexAddr t x i,ty,pos,after,g⟩ (.de dG (o+m.toNat) 0):=by
 intro w a σ S ad;have U:=ad.dN ar;have ab:=ad.eZ aa;generalize bw:a.eval x=z at U;cases U with
 |jJ=>omega
 |ro _ _ _ _ b of cap val dp hlen av ah gf=>
  have J7:m.toNat<len:=J;refine ⟨.pointer (some ⟨b,of+m.toNat*dG.aC,none⟩),.de _ _ _ _ _ _ (fun e=>val m.toNat e) dp (fun e he=> ?_) (fun e he=> ?_) (fun e he=>gf m.toNat e J7 (by simpa using he)),fun w' _=> ?_⟩
  ·simp only [c1] at he;exact av m.toNat e J7 he
  ·simp only [c1] at he⊢;exact ah m.toNat e J7 he
  ·cases aB:P.info? e with
   |none=>simp [aB] at ax
   |some inf=>
    have cq:inf.size=dG.aC:=by simpa [aB] using ax
    simp [execOp,bw,ab,Instr.indexAt,asIntOf,run_underlying bs,ak,sizeOf,typeInfo,aB,cq,Addr.add_lit]
theorem aix {x i:Operand}{t e:TypeId}{h o len:Nat}{bc:bk}{k:IntKind}{m:Int}(bs:P.underlying t=some (.slice e))(ar:bA fr x=some (.aA h o len))(aU:H[h]? =some (some bc))(ax:(P.info? e).map (·.size)=some bc.c.aC)(aa:bA fr i=some (.int k m))(ak:0≤m∧m<len):
 bV ind P fn c fr H ⟨d,.indexAddr t x i,ty,pos,after,g⟩ (.ptr h (o+m.toNat) 0):=by
 intro w a σ S ad;have U:=ad.dN ar;have ab:=ad.eZ aa;generalize bw:a.eval x=z at U;cases U with
 |hW=>omega
 |aA _ _ _ _ b s C cap bG hlen jE=>
  rcases ad.ad.live h bc aU with ⟨aF,_⟩|⟨b',cF,cur,fj,aw⟩
  ·rw [bG] at aF;cases aF
  ·rw [bG] at fj;simp only [dy,bQ.at.injEq] at fj;obtain ⟨rfl,rfl,rfl⟩:=fj;refine ⟨_,.ptr _ h (o+m.toNat) 0 b bc.c.aC C bG,fun w' _=> ?_⟩;cases aB:P.info? e with
   |none=>simp [aB] at ax
   |some inf=>
    have cq:inf.size=bc.c.aC:=by simpa [aB] using ax
    simp [execOp,bw,ab,Instr.indexAt,asIntOf,run_underlying bs,ak,sizeOf,typeInfo,aB,cq,Addr.add_lit,ef]
def iP:TypeDesc→Bool
 | .struct _=>true
 | .array _ _=>true
 |_=>false
theorem wZ {t:TypeId}{u:TypeDesc}{w:World}(bs:P.underlying t=some u):(isAgg t).run P w= .ok (iP u) w:=by have bT:= ‹bq›;unfold isAgg;simp only [Sem.run_bind,run_underlying bs,Result.andThen_ok];cases u<;>rfl
theorem Hp {x:Operand}{t:TypeId}{u:TypeDesc}{dG:Cells}{i j:Nat}{v:al}(bs:P.underlying t=some u)(hu:iP u=false)(ar:bA fr x=some (.de dG i j))(ae:Nat.blt j dG.aC=true)(ah:dG.at i j=v):
 bV false P fn c fr H ⟨d,.load t x,ty,pos,after,g⟩ v:=by
 intro w a σ S ad;have U:=ad.dN ar;generalize bw:a.eval x=z at U;cases U with
 |de _ _ _ _ b o val dp av hU gf=>
  have bf:j+0<dG.aC:=ir ae;have ab:=hU 0 bf;have aw:=av 0 bf;simp only [eQ,ah] at ab aw;refine ⟨val 0,ab.mono (fun _ h=>h) (fun _ _=>rfl) _ (fun _ _ h=>by cases h),fun w' hw=> ?_⟩;have hw:=hw.resolve_left a6;have bg:w'.cell? ⟨b,o,none⟩=some (val 0):=by rw [←aw];exact World.cell?_of_block (by rw [hw])
  simp [execOp,bw,Instr.loadAt,Instr.sureAddr,loadVar,wZ bs,hu,load,Sem.run,bg]
theorem G2 {x:Operand}{t:TypeId}{u:TypeDesc}{h i j:Nat}{bc:bk}{v:al}(bs:P.underlying t=some u)(hu:iP u=false)(ar:bA fr x=some (.ptr h i j))(aU:H[h]? =some (some bc))(ae:Nat.blt j bc.c.aC=true)(ah:bc.c.at i j=v)(aa:i<bc.c.len):
 bV false P fn c fr H ⟨d,.load t x,ty,pos,after,g⟩ v:=by
 intro w a σ S ad;have U:=ad.dN ar;generalize bw:a.eval x=z at U;cases U with
 |ptr _ _ _ _ b s C bG=>
  rcases ad.ad.live h bc aU with ⟨aF,_⟩|⟨b',cF,cur,fj,aw,bg,bF,dm,fi,py⟩
  ·rw [bG] at aF;cases aF
  ·rw [bG] at fj;simp only [dy,bQ.at.injEq] at fj;obtain ⟨rfl,rfl,rfl⟩:=fj;obtain ⟨y,aaR,PX,alO⟩:=py i j aa (ir ae);obtain ⟨mk,aw,_,_⟩:=aw.cells (by have:=ir ae;omega);rw [ah] at PX;refine ⟨y,PX,fun w' hw=> ?_⟩;have hw:=hw.resolve_left a6;have lv:w'.cell? ⟨b,i*bc.c.aC+j,none⟩=some y:=by simp [World.cell?,hw,aw,aaR]
   simp [execOp,bw,Instr.loadAt,Instr.sureAddr,loadVar,wZ bs,hu,load,Sem.run,lv]
end
end Go.ai
namespace Go.ai
variable [bq]
open Go.RowKit
def Cells.yy:Cells→Nat→Nat→al→Option Cells
 | .ints k l,i,_,v=>match v with
  | .int cP n=>match k,cP with
   | .i64,.i64=>some (.ints k (l.set i n))
   | .u8,.u8=>some (.ints k (l.set i n))
   | .u64,.u64=>some (.ints k (l.set i n))
   | .i32,.i32=>some (.ints k (l.set i n))
   | .u32,.u32=>some (.ints k (l.set i n))
   |_,_=>none
  |_=>none
 | .strs l,i,_,v=>match v with
  | .str s=>some (.strs (l.set i s))
  |_=>none
 | .box l,_,j,v=>some (.box (l.set j v))
 | .mp _ _,_,_,_=>none
 | .fn n s f,i,j,v=>some (.fn n s (fun aI a7=>bif Nat.beq aI i && Nat.beq a7 j then v else f aI a7))
def al.one:al→Bool
 | .agg _=>false
 | .cd _=>false
 | .any=>false
 |_=>true
theorem bp.one {w:World}{S:Nat→Prop}{σ:Nat→Option bQ}{x:al}{v:Value}(h:bp w S σ x v)(ar:x.one=true):v.oneCell'=true:=by have bT:= ‹bq›;cases h<;>first|rfl|cases ar
theorem Cells.afN {c c':Cells}{i j:Nat}{v:al}(h:c.yy i j v=some c'):c'.len=c.len∧c'.aC=c.aC∧ ∀aI a7,aI<c.len→a7<c.aC→i<c.len→j<c.aC→c'.at aI a7=if aI=i∧a7=j then v else c.at aI a7:=by
 have bT:= ‹bq›;cases c with
 |ints k l=>
  have: ∃n,v= .int k n∧c'= .ints k (l.set i n):=by
   cases v<;>simp only [Cells.yy] at h<;>try (cases h;done)
   rename_i cP n;cases k<;>cases cP<;>simp at h<;>exact ⟨n,rfl,h.symm⟩
  obtain ⟨n,rfl,rfl⟩:=this;refine ⟨by simp [Cells.len],I,fun aI a7 aa ae pD so=> ?_⟩;simp only [Cells.len,Cells.aC] at aa ae pD so;have aD:a7=0:=J;have aE:j=0:=J;subst aD aE;simp only [Cells.at,and_true];by_cases he:aI=i
  ·subst he;simp [List.getD,aa]
  ·have: ¬i=aI:=fun e=>he e.symm;simp [List.getD,he,this]
 |strs l=>
  have: ∃n,v= .str n∧c'= .strs (l.set i n):=by
   cases v<;>simp only [Cells.yy] at h<;>try (cases h;done)
   exact ⟨_,I,(p3 h).symm⟩
  obtain ⟨n,rfl,rfl⟩:=this;refine ⟨by simp [Cells.len],I,fun aI a7 aa ae pD so=> ?_⟩;simp only [Cells.len,Cells.aC] at aa ae pD so;have aD:a7=0:=J;have aE:j=0:=J;subst aD aE;simp only [Cells.at,and_true];by_cases he:aI=i
  ·subst he;simp [List.getD,aa]
  ·have: ¬i=aI:=fun e=>he e.symm;simp [List.getD,he,this]
 |box l=>
  simp only [Cells.yy,dy] at h;subst h;refine ⟨I,by simp [Cells.aC],fun aI a7 aa ae pD so=> ?_⟩;simp only [Cells.len,Cells.aC] at aa ae pD so;have aD:aI=0:=J;have aE:i=0:=J;subst aD aE;simp only [Cells.at,true_and];by_cases he:a7=j
  ·subst he;simp [List.getD,ae]
  ·have: ¬j=a7:=fun e=>he e.symm;simp [List.getD,he,this]
 |fn n s f=>
  simp only [Cells.yy,dy] at h;subst h;refine ⟨I,I,fun aI a7 aa ae pD so=> ?_⟩;simp only [Cells.at];by_cases he:aI=i
  ·subst he;by_cases jG:a7=j
   ·subst jG;simp
   ·simp [db jG,jG]
  ·simp [db he,he]
 |mp ks vs=>cases h
theorem b6.obj {c:Ctx}{w:World}{a:Act}{σ:Nat→Option bQ}{S:Nat→Prop}{n:Nat}{fr:Fr}{H:aX}(ad:b6 c w a σ S n fr H){h b s C:Nat}{o:bk}(aU:H[h]? =some (some o))(bG:σ h=some (.at b s C)):
 s=o.c.aC∧ ∃cur,Lays w S σ o b cur C∧cur.size=C*o.c.aC∧C≤maxLen+1∧o.c.len≤C∧ ¬S b∧
  ∀i j,i<o.c.len→j<o.c.aC→ ∃v,cur[i*o.c.aC+j]? =some v∧bp w S σ (o.c.at i j) v∧v.oneCell'=true:=by
 rcases ad.ad.live h o aU with ⟨aF,_⟩|⟨b',cF,cur,fj,aw⟩
 ·rw [bG] at aF;cases aF
 ·rw [bG] at fj;simp only [dy,bQ.at.injEq] at fj;obtain ⟨rfl,rfl,rfl⟩:=fj;exact ⟨I,cur,aw⟩
theorem b6.setRow {c:Ctx}{w:World}{a:Act}{σ:Nat→Option bQ}{S:Nat→Prop}{n:Nat}{fr:Fr}{H:aX}(ad:b6 c w a σ S n fr H){h b s C:Nat}{o:bk}(aU:H[h]? =some (some o))(bG:σ h=some (.at b s C)){c':Cells}{cur':Array Value}(kF:C≤maxLen)(cq:c'.aC=o.c.aC)(hlen:c'.len≤C)(iJ:cur'.size=C*o.c.aC)(av: ∀i j,i<c'.len→j<c'.aC→ ∃v,cur'[i*c'.aC+j]? =some v∧bp w S σ (c'.at i j) v∧v.oneCell'=true):
 b6 c (w.setRow b cur') a σ S n fr (H.set h (some ⟨o.ty,c'⟩)):=by
 obtain ⟨ax,cur,U,ab,aw,bg,bF,dm⟩:=ad.obj aU bG;obtain ⟨mk,U,nN⟩:=U.uJ kF;have bC:h<H.length:=(gL.1 aU).1;have dp: ∀b',S b'→(w.setRow b cur').heap[b']? =w.heap[b']? :=fun b' ak=>setRow_other w b b' cur' (fun e=>bF (e▸ak));have ah: ∀{bu:Nat→Option bQ} {x v},bp w S bu x v→bp (w.setRow b cur') S bu x v:=fun h=>h.mono (fun _ h=>h) dp _ (fun _ _ h=>h);have cS: ∀aL o',(H.set h (some ⟨o.ty,c'⟩))[aL]? =some (some o')→(aL=h∧o'=⟨o.ty,c'⟩)∨(aL≠h∧H[aL]? =some (some o')):=by
  intro aL o' aj;by_cases he:aL=h
  ·subst he;simp only [nB bC,dy] at aj;exact .inl ⟨I,aj.symm⟩
  ·rw [k0 (p4 he)] at aj;exact .inr ⟨he,aj⟩
 have ss:=ad.bh.own h o b s C aU bG;refine ⟨⟨?_,?_,fun b' ak=>by rw [setRow_size];exact ad.ad.small b' ak,fun aL au=>ad.ad.hG aL (by simpa using au)⟩,?_,ad.defers,ad.size,fun t v au=>⟨(ad.e8 t v au).1,ah (ad.e8 t v au).2⟩⟩
 ·intro aL o' aj;rcases cS aL o' aj with ⟨rfl,rfl⟩|⟨b2,cU⟩
  ·right;refine ⟨b,C,cur',?_,.row mk (setRow_heap w b cur cur' _ _ U) (by rw [iJ,←ab];exact nN) kF,by simpa [cq] using iJ,aw,hlen,bF,fun i j aa ae=> ?_⟩
   ·rw [bG,ax,cq]
   ·obtain ⟨v,aD,aE,bM⟩:=av i j aa ae;exact ⟨v,aD,ah aE,bM⟩
  ·rcases ad.ad.live aL o' cU with aF|⟨b',cF,iu,g1,g2,g3,g4,g5,g6,g7⟩
   ·exact .inl aF
   ·right;have sl:b'≠b:=fun e=>b2 (ad.ad.hi aL h o' o b' o'.c.aC cF s C cU aU g1 (by rw [bG,e]));refine ⟨b',cF,iu,g1,g2.mono (setRow_other w b b' cur' sl) ah,g3,g4,g5,g6,fun i j aa ae=> ?_⟩;obtain ⟨v,aD,aE,bM⟩:=g7 i j aa ae;exact ⟨v,aD,ah aE,bM⟩
 ·intro gf uR o1 o2 b' s1 gl s2 fY g1 g2 aD aE;have t1: ∃o,H[gf]? =some (some o):=by
   rcases cS gf o1 g1 with ⟨rfl,_⟩|⟨_,g⟩
   ·exact ⟨_,aU⟩
   ·exact ⟨_,g⟩
  have t2: ∃o,H[uR]? =some (some o):=by
   rcases cS uR o2 g2 with ⟨rfl,_⟩|⟨_,g⟩
   ·exact ⟨_,aU⟩
   ·exact ⟨_,g⟩
  obtain ⟨_,t1⟩:=t1;obtain ⟨_,t2⟩:=t2;exact ad.ad.hi gf uR _ _ b' s1 gl s2 fY t1 t2 aD aE
 ·refine ⟨ad.bh.os,ad.bh.output,ad.bh.tape,by rw [setRow_size];exact ad.bh.size,fun b' ak aj=> ?_,ad.bh.hD,ad.bh.e4,ad.bh.fixed,fun aL aN=>by simpa using ad.bh.iY aL aN,?_⟩
  ·have sl:b'≠b:=by
    rintro rfl;rcases ss with h|h
    ·exact aj h
    ·omega
   rw [setRow_other w b b' cur' sl];exact ad.bh.block b' ak aj
  ·intro aL o' b' cl cF aj ak;rcases cS aL o' aj with ⟨rfl,_⟩|⟨_,g⟩
   ·exact ad.bh.own _ _ b' cl cF aU ak
   ·exact ad.bh.own aL o' b' cl cF g ak
def cN (σ:Nat→Option bQ)(h:Nat)(B:bQ):Nat→Option bQ:=fun aL=>if aL=h then some B else σ aL
theorem b6.Wi {c:Ctx}{w:World}{a:Act}{σ:Nat→Option bQ}{S:Nat→Prop}{n:Nat}{fr:Fr}{H:aX}(ad:b6 c w a σ S n fr H){o:bk}{C:Nat}{cur:Array Value}{mk:Nat×Nat}(hlen:o.c.len≤C)(dR:C≤maxLen)(iJ:cur.size=C*o.c.aC)(av: ∀i j,i<o.c.len→j<o.c.aC→ ∃v,cur[i*o.c.aC+j]? =some v∧bp w S σ (o.c.at i j) v∧v.oneCell'=true)(nN:mk.2≤mk.1∨cur.size≤mk.1):
 b6 c (w.alloc (.cells cur o.ty mk)) a (cN σ H.length (.at w.heap.size o.c.aC C)) S n fr (H++[some o]):=by
 have hold: ∀b,b<w.heap.size→(w.alloc (.cells cur o.ty mk)).heap[b]? =w.heap[b]? :=fun b ak=>Below.heap_alloc _ _ b ak;have mV: ∀h B,σ h=some B→cN σ H.length (.at w.heap.size o.c.aC C) h=some B:=by
  intro h B cZ;unfold cN;split
  ·rename_i he;rw [he,ad.ad.hG _ (bR _)] at cZ;cases cZ
  ·exact cZ
 have ah: ∀{x v},bp w S σ x v→bp (w.alloc (.cells cur o.ty mk)) S (cN σ H.length (.at w.heap.size o.c.aC C)) x v:=
  fun h=>h.mono (fun _ h=>h) (fun b ak=>hold b (ad.ad.small b ak)) _ mV
 have cS: ∀aL o',(H++[some o])[aL]? =some (some o')→(aL=H.length∧o'=o)∨(aL<H.length∧H[aL]? =some (some o')):=by
  intro aL o' aj;by_cases he:aL<H.length
  ·rw [hQ he] at aj;exact .inr ⟨he,aj⟩
  ·by_cases jG:aL=H.length
   ·subst jG;simp at aj;exact .inl ⟨rfl,aj.symm⟩
   ·have:(H++[some o]).length≤aL:=by simp;omega
    rw [jT this] at aj;cases aj
 have C0: ∀h o' b s cF,h<H.length→H[h]? =some (some o')→σ h=some (.at b s cF)→b<w.heap.size:=by intro h o' b s cF _ aj ak;obtain ⟨_,iu,g,_⟩:=ad.obj aj ak;exact g.lt
 refine ⟨⟨?_,?_,fun b ak=>by have:=ad.ad.small b ak;simp;omega,fun h au=> ?_⟩,?_,ad.defers,ad.size,fun t v au=>⟨(ad.e8 t v au).1,ah (ad.e8 t v au).2⟩⟩
 ·intro aL o' aj;rcases cS aL o' aj with ⟨rfl,rfl⟩|⟨bC,cU⟩
  ·right;refine ⟨w.heap.size,C,cur,by simp [cN],.row mk (heap_alloc_new w _) nN dR,iJ,Nat.le_succ_of_le dR,hlen,fun ax=>ov _ (ad.ad.small _ ax),fun i j aa ae=> ?_⟩;obtain ⟨v,aD,aE,bM⟩:=av i j aa ae;exact ⟨v,aD,ah aE,bM⟩
  ·rcases ad.ad.live aL o' cU with ⟨aF,iZ⟩|⟨b',cF,iu,g1,g2,g3,g4,g5,g6,g7⟩
   ·exact .inl ⟨mV _ _ aF,iZ⟩
   ·right;refine ⟨b',cF,iu,mV _ _ g1,g2.mono (hold b' g2.lt) ah,g3,g4,g5,g6,fun i j aa ae=> ?_⟩;obtain ⟨v,aD,aE,bM⟩:=g7 i j aa ae;exact ⟨v,aD,ah aE,bM⟩
 ·intro U ab o1 o2 b s1 gl s2 fY g1 g2 aD aE;rcases cS U o1 g1 with ⟨rfl,rfl⟩|⟨gh,uP⟩<;>rcases cS ab o2 g2 with ⟨rfl,rfl⟩|⟨fB,Cl⟩
  ·rfl
  ·simp only [cN,fS,dy,bQ.at.injEq] at aD;simp only [cN,ow fB,gW] at aE;have:=C0 ab o2 b s2 fY fB Cl aE;omega
  ·simp only [cN,fS,dy,bQ.at.injEq] at aE;simp only [cN,ow gh,gW] at aD;have:=C0 U o1 b s1 gl gh uP aD;omega
  ·simp only [cN,ow gh,ow fB,gW] at aD aE;exact ad.ad.hi U ab o1 o2 b s1 gl s2 fY uP Cl aD aE
 ·simp only [c2,fZ,kd] at au;have: ¬h=H.length:=J;simp only [cN,this,gW];exact ad.ad.hG h J
 ·refine ⟨ad.bh.os,ad.bh.output,ad.bh.tape,by have:=ad.bh.size;simp;omega,fun b ak aj=> ?_,ad.bh.hD,ad.bh.e4,fun h aN=> ?_,fun h aN=>by have:=ad.bh.iY h aN;simp;omega,?_⟩
  ·rw [hold b (by have:=ad.bh.size;omega)];exact ad.bh.block b ak aj
  ·have:=ad.bh.iY h aN;have ab: ¬h=H.length:=J;simp only [cN,ab,gW];exact ad.bh.fixed h aN
  ·intro aL o' b s cF aj ak;rcases cS aL o' aj with ⟨rfl,rfl⟩|⟨bC,cU⟩
   ·simp only [cN,fS,dy,bQ.at.injEq] at ak;have:=ad.bh.size;omega
   ·simp only [cN,ow bC,gW] at ak;exact ad.bh.own aL o' b s cF cU ak
theorem b6.alloc {c:Ctx}{w:World}{a:Act}{σ:Nat→Option bQ}{S:Nat→Prop}{n:Nat}{fr:Fr}{H:aX}(ad:b6 c w a σ S n fr H){o:bk}{C:Nat}{cur:Array Value}(hlen:o.c.len≤C)(dR:C≤maxLen)(iJ:cur.size=C*o.c.aC)(av: ∀i j,i<o.c.len→j<o.c.aC→ ∃v,cur[i*o.c.aC+j]? =some v∧bp w S σ (o.c.at i j) v∧v.oneCell'=true):
 b6 c (w.alloc (.cells cur o.ty (0,0))) a (cN σ H.length (.at w.heap.size o.c.aC C)) S n fr (H++[some o]):=
 ad.Wi hlen dR iJ av (.inl (bR _))
theorem b6.Wj {c:Ctx}{w:World}{a:Act}{σ:Nat→Option bQ}{S:Nat→Prop}{n:Nat}{fr:Fr}{H:aX}(ad:b6 c w a σ S n fr H)(bc:Obj):
 b6 c (w.alloc bc) a σ (fun b=>S b∨b=w.heap.size) n fr H:=by
 have hold: ∀b,b<w.heap.size→(w.alloc bc).heap[b]? =w.heap[b]? :=fun b ak=>Below.heap_alloc _ _ b ak;have ah: ∀{bu:Nat→Option bQ} {x v},bp w S bu x v→bp (w.alloc bc) (fun b=>S b∨b=w.heap.size) bu x v:=
  fun h=>h.mono (fun _ h=> .inl h) (fun b ak=>hold b (ad.ad.small b ak)) _ (fun _ _ h=>h)
 refine ⟨⟨?_,ad.ad.hi,fun b ak=> ?_,ad.ad.hG⟩,?_,ad.defers,ad.size,fun t v au=>⟨(ad.e8 t v au).1,ah (ad.e8 t v au).2⟩⟩
 ·intro aL o' cU;rcases ad.ad.live aL o' cU with ⟨aF,iZ⟩|⟨b',cF,iu,g1,g2,g3,g4,g5,g6,g7⟩
  ·exact .inl ⟨aF,iZ⟩
  ·right;have bC:=g2.lt;refine ⟨b',cF,iu,g1,g2.mono (hold b' bC) ah,g3,g4,g5,?_,fun i j aa ae=> ?_⟩
   ·rintro (h|h)
    ·exact g6 h
    ·omega
   ·obtain ⟨v,aD,aE,bM⟩:=g7 i j aa ae;exact ⟨v,aD,ah aE,bM⟩
 ·rcases ak with h|h
  ·have:=ad.ad.small b h;simp;omega
  ·simp;omega
 ·refine ⟨ad.bh.os,ad.bh.output,ad.bh.tape,by have:=ad.bh.size;simp;omega,fun b ak aj=> ?_,fun b ak=> .inl (ad.bh.hD b ak),fun b ak=> ?_,ad.bh.fixed,ad.bh.iY,ad.bh.own⟩
  ·rw [hold b (by have:=ad.bh.size;omega)];exact ad.bh.block b ak aj
  ·rcases ak with h|h
   ·exact ad.bh.e4 b h
   ·have:=ad.bh.size;exact .inr (.inr J)
end Go.ai
namespace Go.ai
variable [bq]
open Go.RowKit
section
variable {P:Program}{fn:Func}{c:Ctx}{fr:Fr}{H:aX}{k:List eh}
theorem uG {all:Array Oper}{d:Nat}{op:Op}{ty:TypeId}{pos:String}{after:Array Edge}{rest:List Oper}{v:al}{hT:Fr}{bE:aX}(pF: ∀w a σ S,b6 c w a σ S fn.ntmps fr H→ ∃x w' bu bY,(execOp a.eval ⟨some d,op,ty,pos,after,none⟩).run P w= .ok (.value x) w'∧b6 c w' a bu bY fn.ntmps hT bE∧bp w' bY bu v x)(h:ai P fn c (.ops false all rest k) ((d,v)::hT) bE):ai P fn c (.ops false all (⟨some d,op,ty,pos,after,none⟩::rest) k) fr H:=by intro hd w a σ S ad;obtain ⟨iK,jF⟩:=sI hd;obtain ⟨x,w',bu,bY,ez,fA,ar⟩:=pF w a σ S ad;refine wpList_step (fun K dn=> ?_);simp only [Region.wanted,fS];unfold Oper.wp;rw [ez];exact dn _ _ (h jF w' _ bu bY (fA.put ar (iK d I)))
theorem Ev {all:Array Oper}{op:Op}{ty:TypeId}{pos:String}{after:Array Edge}{rest:List Oper}{hT:Fr}{bE:aX}(pF: ∀w a σ S,b6 c w a σ S fn.ntmps fr H→ ∃w' bu bY,(execOp a.eval ⟨none,op,ty,pos,after,none⟩).run P w= .ok .skip w'∧b6 c w' a bu bY fn.ntmps hT bE)(h:ai P fn c (.ops false all rest k) hT bE):ai P fn c (.ops false all (⟨none,op,ty,pos,after,none⟩::rest) k) fr H:=by intro hd w a σ S ad;obtain ⟨_,jF⟩:=sI hd;obtain ⟨w',bu,bY,ez,fA⟩:=pF w a σ S ad;refine wpList_step (fun K dn=> ?_);simp only [Region.wanted,fS];unfold Oper.wp;rw [ez];exact dn _ _ (h jF w' _ bu bY fA)
theorem yU {t:TypeId}{s:Nat}{w:World}(ax:(P.info? t).map (·.size)=some s):(sizeOf t).run P w= .ok s w:=by
 have bT:= ‹bq›;cases aB:P.info? t with
 |none=>simp [aB] at ax
 |some i=>simp [aB] at ax;subst ax;simp [sizeOf,typeInfo,aB]
theorem kN {all:Array Oper}{t:TypeId}{x y:Operand}{ty:TypeId}{pos:String}{after:Array Edge}{rest:List Oper}{h i j:Nat}{bc:bk}{v:al}{c':Cells}(ar:bA fr x=some (.ptr h i j))(aY:bA fr y=some v)(Ah:v.one=true)(ax:(P.info? t).map (·.size)=some 1)(aU:H[h]? =some (some bc))(ae:Nat.blt j bc.c.aC=true)(hu:bc.c.yy i j v=some c')(aa:i<bc.c.len)(ao:ai P fn c (.ops false all rest k) fr (H.set h (some ⟨bc.ty,c'⟩))):ai P fn c (.ops false all (⟨none,.store t x y,ty,pos,after,none⟩::rest) k) fr H:=by
 refine Ev (fun w a σ S ad=> ?_) ao;have U:=ad.dN ar;have ab:=ad.dN aY;have bf:j<bc.c.aC:=ir ae;generalize bw:a.eval x=z at U;generalize lY:a.eval y=u at ab;have Kd:=ab.one Ah;cases U with
 |ptr _ _ _ _ b s C bG=>
  obtain ⟨gA,cur,g1,g2,g3,g4,g5,g6⟩:=ad.obj aU bG;subst gA;obtain ⟨mk,g1,nN,kF⟩:=g1.cells J;obtain ⟨gh,fB,hk⟩:=Cells.afN hu;have dO:i*bc.c.aC+j<cur.size:=by rw [g2];have:(i+1)*bc.c.aC≤C*bc.c.aC:=fo _ J;rw [ef] at this;omega
  refine ⟨w.setRow b (cur.setIfInBounds (i*bc.c.aC+j) u),σ,S,?_,ad.setRow aU bG kF fB J (by simpa using g2) (fun aI a7 aP bf=> ?_)⟩
  ·have Fm:w.cell? ⟨b,i*bc.c.aC+j,none⟩=some cur[i*bc.c.aC+j]:=by simp [World.cell?,g1,dO]
   have aN:w.frozen? ⟨b,i*bc.c.aC+j,none⟩=false:=by simp [World.frozen?,g1];omega
   have Cx:u.cells= #[u]:=by cases u<;>first|rfl|cases Kd
   have dH:=run_store P w ⟨b,i*bc.c.aC+j,none⟩ u .plain Kd;rw [Fm] at dH;simp only [aN,q0,gW,setCell_eq_setRow w b (i*bc.c.aC+j) cur bc.ty mk u g1] at dH;simp [execOp,bw,lY,Instr.storeAt,Instr.sureAddr,storeVar,Cx,yU ax,storeCells,Addr.add_lit,dH]
  ·rw [gh] at aP;rw [fB] at bf⊢;rw [hk aI a7 aP bf aa hv];by_cases he:aI=i∧a7=j
   ·obtain ⟨rfl,rfl⟩:=he;simp only [and_self,fS];exact ⟨u,by simp [dO],ab,Kd⟩
   ·rw [az he];obtain ⟨sB,aD,aE,bM⟩:=g6 aI a7 aP bf;refine ⟨sB,?_,aE,bM⟩;have b2: ¬i*bc.c.aC+j=aI*bc.c.aC+a7:=by
     intro e;apply he;have hd:(i*bc.c.aC+j)/bc.c.aC=(aI*bc.c.aC+a7)/bc.c.aC:=by rw [e]
     have hm:(i*bc.c.aC+j)%bc.c.aC=(aI*bc.c.aC+a7)%bc.c.aC:=by rw [e]
     rw [gM i,gM aI,Nat.mul_add_div J,Nat.mul_add_div J,ox hv,ox bf] at hd;rw [gM i,gM aI,Nat.mul_add_mod,Nat.mul_add_mod,mK hv,mK bf] at hm;omega
    rw [Array.getElem?_setIfInBounds_ne b2];exact aD
def uk (v:Value):Option (List al):=v.cells.toList.mapM fun x=>yw x
theorem DR {w:World}{S:Nat→Prop}{σ:Nat→Option bQ}{z:Value}{zs:List al}(h:uk z=some zs):z.cells.size=zs.length∧ ∀j,j<zs.length→bp w S σ (zs.getD j .any) (z.cells.getD j undef)∧(z.cells.getD j undef).oneCell'=true:=by
 unfold uk at h;have key: ∀(l:List Value) (zs:List al),l.mapM (fun x=>yw x)=some zs→l.length=zs.length∧ ∀j,j<zs.length→bp w S σ (zs.getD j .any) (l.getD j undef)∧(l.getD j undef).oneCell'=true:=by
  intro l;induction l with
  |nil=>intro zs h;simp at h;subst h;exact ⟨rfl,fun j ae=>by simp at ae⟩
  |cons x r a8=>
   intro zs h;simp only [List.mapM_cons] at h;cases U:yw x with
   |none=>simp [U] at h
   |some y=>
    cases ab:r.mapM (fun x=>yw x) with
    |none=>simp [U,ab] at h
    |some AM=>
     simp [U,ab] at h;subst h;obtain ⟨i1,i2⟩:=a8 AM ab;refine ⟨by simp [i1],fun j ae=> ?_⟩;cases j with
     |zero=>exact NC U
     |succ j=>simpa using i2 j (by simpa using ae)
 obtain ⟨eF,eG⟩:=key _ _ h;refine ⟨by simpa using eF,fun j ae=> ?_⟩;have:=eG j ae;have e:z.cells.toList.getD j undef=z.cells.getD j undef:=by
  have bC:j<z.cells.size:=by simp at eF;omega
  simp [List.getD,Array.getD,bC]
 rwa [e] at this
def nZ (n:Nat):List al→Cells
 |[.int k 0]=> .ints k (List.replicate n 0)
 |[.str []]=> .strs (List.replicate n [])
 |zs=> .fn n zs.length (fun _ j=>zs.getD j .any)
theorem agk (n:Nat)(zs:List al):(nZ n zs).len=n∧(nZ n zs).aC=zs.length∧ ∀i j,i<n→j<zs.length→(nZ n zs).at i j=zs.getD j .any:=by
 have bT:= ‹bq›;unfold nZ;split
 ·refine ⟨by simp [Cells.len],I,fun i j aa ae=> ?_⟩;simp only [fZ,kd] at ae;have:j=0:=J;subst this;simp [Cells.at,List.getD,aa]
 ·refine ⟨by simp [Cells.len],I,fun i j aa ae=> ?_⟩;simp only [fZ,kd] at ae;have:j=0:=J;subst this;simp [Cells.at,List.getD,aa]
 ·exact ⟨I,I,fun i j aa ae=>rfl⟩
theorem Ya (z:Array Value)(n s:Nat)(ax:z.size=s)(i j:Nat)(aa:i<n)(ae:j<s):(madeCells z (n*s))[i*s+j]? =some (z.getD j undef):=by
 have bT:= ‹bq›;have bC:i*s+j<n*s:=by have:(i+1)*s≤n*s:=fo _ J;rw [ef] at this;omega
 have hm:(i*s+j)%s=j:=by rw [gM,Nat.mul_add_mod];exact mK ae
 subst ax;simp [madeCells,bC,hm,Array.getD,ae]
theorem l6 {all:Array Oper}{d:Nat}{t e:TypeId}{x y:Operand}{ty:TypeId}{pos:String}{after:Array Edge}{rest:List Oper}{inf:TypeInfo}{z:Value}{zs:List al}{n m:Int}{eF eG:IntKind}(bs:P.underlying t=some (.slice e))(aa:P.info? e=some inf)(bw:inf.zero=some z)(cq:inf.size=zs.length)(nR:uk z=some zs)(eE:Nat.blt 0 zs.length=true)(ar:bA fr x=some (.int eF n))(aY:bA fr y=some (.int eG m))(ak:0≤n∧n≤m∧(inf.bytes:Int)*m≤281474976710656∧m≤9223372036854775807)(ao:ai P fn c (.ops false all rest k) ((d,.aA H.length 0 n.toNat)::fr) (H++[some ⟨e,nZ m.toNat zs⟩])):ai P fn c (.ops false all (⟨some d,.makeSlice t x y,ty,pos,after,none⟩::rest) k) fr H:=by
 refine uG (fun w a σ S ad=> ?_) ao;obtain ⟨l2,z2,z3⟩:=agk m.toNat zs;obtain ⟨iA,jb⟩:=DR (w:=w) (S:=S) (σ:=σ) nR;have ez:=run_make (P:=P) w t e inf z bs aa bw eF eG n m ak.1 ak.2.1 ak.2.2.1 ak.2.2.2;have FP:0<zs.length:=ir eE;refine ⟨.slice (some ⟨w.heap.size,0,none⟩) n.toNat m.toNat,_,_,S,?_,ad.alloc (o:=⟨e,nZ m.toNat zs⟩) (C:=m.toNat) (cur:=madeCells z.cells (m.toNat*inf.size)) (by simp [l2]) (by unfold maxLen;omega) (by simp [z2,size_madeCells,cq]) (fun i j aa ae=> ?_),?_⟩
 ·rotate_left
  ·simp [execOp,ad.eZ ar,ad.eZ aY,ez]
 ·simp only [l2] at aa;simp only [z2] at ae⊢;rw [cq,Ya z.cells m.toNat zs.length iA i j aa ae,z3 i j aa ae];exact ⟨_,I,(jb j ae).1,(jb j ae).2⟩
 ·have:=bp.aA (w:=w.alloc (.cells (madeCells z.cells (m.toNat*inf.size)) e (0,0))) (S:=S) (cN σ H.length (.at w.heap.size zs.length m.toNat)) H.length 0 n.toNat w.heap.size zs.length m.toNat m.toNat (by simp [cN]) J J;simpa [z2] using this
end
end Go.ai
namespace Go.ai
variable [bq]
open Go.RowKit
def p1 (w:World)(S:Nat→Prop)(σ:Nat→Option bQ)(cs:Array Value)(L:List al):Prop:=
 cs.size=L.length∧ ∀j,j<L.length→bp w S σ (L.getD j .any) (cs.getD j undef)∧(cs.getD j undef).oneCell'=true
def al.uI:al→Option (List al)
 | .agg l=>some l
 | .cd _=>none
 | .any=>none
 |v=>some [v]
theorem SS {w:World}{S:Nat→Prop}{σ:Nat→Option bQ}{v:al}{x:Value}{L:List al}(h:bp w S σ v x)(av:v.uI=some L):p1 w S σ x.cells L:=by
 have one:v.uI=some [v]→v.one=true→p1 w S σ x.cells L:=by
  intro U ab;rw [U] at av;simp only [dy] at av;subst av;have aw:=h.one ab;have Cx:x.cells= #[x]:=by cases x<;>first|rfl|cases aw
  rw [Cx];refine ⟨I,fun j ae=> ?_⟩;simp only [fZ,kd] at ae;have:j=0:=J;subst this;exact ⟨h,aw⟩
 cases h with
 |agg _ l vs au ah U=>
  simp only [al.uI,dy] at av;subst av;exact ⟨au,fun j ae=>⟨ah j ae,U j ae⟩⟩
 |cd=>simp [al.uI] at av
 |any=>simp [al.uI] at av
 |_=>exact one rfl rfl
def y4 (L:List al)(o:Nat):List al→List al
 |[]=>L
 |v::r=>y4 (L.set o v) (o+1) r
theorem agw (L:List al)(o:Nat)(l:List al):(y4 L o l).length=L.length:=by
 have bT:= ‹bq›;induction l generalizing L o with
 |nil=>rfl
 |cons v r a8=>simp [y4,a8]
theorem Wo {w:World}{S:Nat→Prop}{σ:Nat→Option bQ}{cs:Array Value}{L:List al}{o:Nat}{v:al}{x:Value}(h:p1 w S σ cs L)(ah:bp w S σ v x)(U:x.oneCell'=true):p1 w S σ (cs.setIfInBounds o x) (L.set o v):=by
 have bT:= ‹bq›;refine ⟨by simp [h.1],fun j ae=> ?_⟩;have bf:j<L.length:=by simpa using ae
 by_cases he:o=j
 ·subst he;have:o<cs.size:=by rw [h.1];exact bf
  simp only [List.getD,nB bf,oy];simp [this,ah,U]
 ·obtain ⟨a,b⟩:=h.2 j bf;simp only [List.getD,k0 he];have e:(cs.setIfInBounds o x).getD j undef=cs.getD j undef:=by simp [Array.getElem?_setIfInBounds_ne he]
  rw [e];exact ⟨by simpa [List.getD] using a,b⟩
theorem Va {w:World}{S:Nat→Prop}{σ:Nat→Option bQ}{o:Nat}: ∀(xs:List Value) (l:List al) (k:Nat) (cs:Array Value) (L:List al),p1 w S σ cs L→xs.length=l.length→
 (∀j,j<l.length→bp w S σ (l.getD j .any) (xs.getD j undef)∧(xs.getD j undef).oneCell'=true)→
 p1 w S σ ((xs.zipIdx k).foldl (fun cs (c,j)=>cs.setIfInBounds (o+j) c) cs) (y4 L (o+k) l)
 |[],[],_,cs,L,h,_,_=>h
 |x::xs,v::l,k,cs,L,h,au,ah=>by simp only [List.zipIdx_cons,List.foldl_cons,y4];have aO:=ah 0 bZ;exact Va xs l (k+1) _ _ (Wo h (by simpa using aO.1) (by simpa using aO.2)) (by simpa using au) (fun j ae=>by simpa using ah (j+1) (by simpa using ae))
 |[],_::_,_,_,_,_,au,_=>by simp at au
 |_::_,[],_,_,_,_,au,_=>by simp at au
def mI (w:World)(S:Nat→Prop)(σ:Nat→Option bQ):List (Nat×al)→List (Nat×Value)→Prop
 |[],[]=>True
 |(i,v)::r,(aI,x)::dk=>i=aI∧bp w S σ v x∧mI w S σ r dk
 |_,_=>False
def rI (place:Nat→Option (Nat×Nat))(L:List al):List (Nat×al)→Option (List al)
 |[]=>some L
 |(i,v)::r=>
  match place i with
  |none=>none
  |some (o,s)=>
   match v.uI with
   |none=>none
   |some l=>bif Nat.beq l.length s && Nat.ble (o+s) L.length then rI place (y4 L o l) r else none
theorem Mb {w:World}{S:Nat→Prop}{σ:Nat→Option bQ}{place:Nat→Option (Nat×Nat)}: ∀(ig:List (Nat×al)) (hV:List (Nat×Value)) (cs:Array Value) (L hN:List al),p1 w S σ cs L→
 mI w S σ ig hV→rI place L ig=some hN→ ∃nG,Instr.fill place cs hV=some nG∧p1 w S σ nG hN
 |[],_::_,cs,L,hN,h,aN,he=>aN.elim
 |_::_,[],cs,L,hN,h,aN,he=>aN.elim
 |[],[],cs,L,hN,h,aN,he=>by simp only [rI,dy] at he;subst he;exact ⟨cs,I,h⟩
 |(i,v)::ig,(aI,x)::hV,cs,L,hN,h,aN,he=>by
  obtain ⟨aD,U,ab⟩:=aN;subst aD;simp only [rI] at he;cases aJ:place i with
  |none=>simp [aJ] at he
  |some os=>
   obtain ⟨o,s⟩:=os;simp only [aJ] at he;cases av:v.uI with
   |none=>simp [av] at he
   |some l=>
    simp only [av] at he;cases ak:(Nat.beq l.length s && Nat.ble (o+s) L.length) with
    |false=>simp [ak] at he
    |true=>
     simp only [ak,kZ] at he;simp only [ei] at ak;have dX:l.length=s:=ot ak.1;have eu:o+s≤L.length:=ir ak.2;have a1:=SS U av;have cq:x.cells.size=s:=by rw [a1.1,dX]
     have aF: ¬((x.cells.size≠s||o+x.cells.size>cs.size)=true):=by rw [cq,h.1];simp;omega
     have tc:p1 w S σ (x.cells.zipIdx.foldl (fun cs (c,j)=>cs.setIfInBounds (o+j) c) cs) (y4 L o l):=by
      rw [←Array.foldl_toList,Array.toList_zipIdx];refine Va (o:=o) x.cells.toList l 0 cs L h (by simpa using a1.1) (fun j ae=> ?_);have e:x.cells.toList.getD j undef=x.cells.getD j undef:=by
       have bC:j<x.cells.size:=by rw [a1.1];exact ae
       simp [List.getD,Array.getD,bC]
      rw [e];exact a1.2 j ae
     obtain ⟨nG,g1,g2⟩:=Mb ig hV _ _ hN tc ab he;refine ⟨nG,?_,g2⟩;simp only [Instr.fill,aJ];rw [az aF];exact g1
section
variable {P:Program}{fn:Func}{c:Ctx}{fr:Fr}{H:aX}{k:List eh}
def qD (fr:Fr):List (Nat×Operand)→Option (List (Nat×al))
 |[]=>some []
 |(i,x)::r=>match bA fr x with
  |some v=>match qD fr r with
   |some l=>some ((i,v)::l)
   |none=>none
  |none=>none
theorem Lt {w:World}{a:Act}{σ:Nat→Option bQ}{S:Nat→Prop}{n:Nat}(ad:b6 c w a σ S n fr H): ∀(ig:List (Nat×Operand)) (l:List (Nat×al)),qD fr ig=some l→
 mI w S σ l (ig.map fun (i,x)=>(i,a.eval x))
 |[],l,h=>by simp [qD] at h;subst h;exact trivial
 |(i,x)::r,l,h=>by
  simp only [qD] at h;cases U:bA fr x with
  |none=>simp [U] at h
  |some v=>
   cases ab:qD fr r with
   |none=>simp [U,ab] at h
   |some fV=>
    simp [U,ab] at h;subst h;exact ⟨I,ad.dN U,Lt ad r fV ab⟩
def Uz (P:Program)(t:TypeId):Option (Nat→Option (Nat×Nat)):=
 match P.underlying t with
 |some (.array _ e)=>match P.info? e with
  |some KD=>some (fun i=>some (i*KD.size,KD.size))
  |none=>none
 |some (.struct fields)=>match fields.toList.mapM (fun f=>(P.info? f.type).map fun i=>(f.offset,i.size)) with
  |some places=>some (places.toArray[·]?)
  |none=>none
 |_=>none
theorem iD {ind:Bool}{d:Option Nat}{ty:TypeId}{pos:String}{after:Array Edge}{g:Option (Nat×Bool)}{t:TypeId}{parts:List (Nat×Operand)}{it:TypeInfo}{z:Value}{zs L:List al}{l:List (Nat×al)}{pl:Nat→Option (Nat×Nat)}(aa:P.info? t=some it)(bw:it.zero=some z)(nR:uk z=some zs)(nP:Uz P t=some pl)(au:qD fr parts=some l)(aN:rI pl zs l=some L):
 bV ind P fn c fr H ⟨d,.build t parts.toArray,ty,pos,after,g⟩ (.agg L):=by
 intro w a σ S ad;obtain ⟨iA,jb⟩:=DR (w:=w) (S:=S) (σ:=σ) nR;obtain ⟨nG,g1,g2⟩:=Mb l _ z.cells zs L ⟨iA,jb⟩ (Lt ad parts l au) aN;refine ⟨.agg nG,.agg _ _ _ g2.1 (fun i aa=>(g2.2 i aa).1) (fun i aa=>(g2.2 i aa).2),fun w' _=> ?_⟩;have ak:P.built t ((parts.toArray.map fun (i,x)=>(i,a.eval x)).toList)=some nG:=by
  have e:(parts.toArray.map fun (i,x)=>(i,a.eval x)).toList=parts.map fun (i,x)=>(i,a.eval x):=bZ;rw [e];unfold Uz at nP;unfold Program.built;cases hu:P.underlying t with
  |none=>simp [hu] at nP
  |some u=>
   cases u with
   |array qo gY=>
    simp only [hu] at nP;cases he:P.info? gY with
    |none=>simp [he] at nP
    |some KD=>
     simp only [he,dy] at nP;subst nP;simp only [aa,bw,he];exact g1
   |struct fields=>
    simp only [hu] at nP;cases he:fields.toList.mapM (fun f=>(P.info? f.type).map fun i=>(f.offset,i.size)) with
    |none=>simp [he] at nP
    |some places=>
     simp only [he,dy] at nP;subst nP;simp only [aa,bw,he];exact g1
   |_=>simp [hu] at nP
 have ez:=run_build (P:=P) w' t (parts.toArray.map fun (i,x)=>(i,a.eval x)) nG ak;simp only [execOp,Sem.run_bind,ez,Result.andThen_ok];rfl
def xg:List al→Option (IntKind×List Int)
 |[]=>none
 |[.int k n]=>some (k,[n])
 | .int k n::r=>match xg r with
  |some (cP,l)=>match k,cP with
   | .i64,.i64=>some (k,n::l)
   | .u8,.u8=>some (k,n::l)
   | .u64,.u64=>some (k,n::l)
   | .i32,.i32=>some (k,n::l)
   | .u32,.u32=>some (k,n::l)
   |_,_=>none
  |none=>none
 |_=>none
def xh:List al→Option (List (List UInt8))
 |[]=>none
 |[.str n]=>some [n]
 | .str n::r=>match xh r with
  |some l=>some (n::l)
  |none=>none
 |_=>none
theorem RZ: ∀(L:List al) (k:IntKind) (l:List Int),xg L=some (k,l)→L=l.map (al.int k)
 |[],k,l,h=>by have bT:= ‹bq›;simp [xg] at h
 |[v],k,l,h=>by cases v<;>simp [xg] at h;obtain ⟨rfl,rfl⟩:=h;rfl
 |v::v2::r,k,l,h=>by
  cases v<;>simp only [xg] at h<;>try (cases h;done)
  rename_i nT n;cases U:xg (v2::r) with
  |none=>simp [U] at h
  |some KM=>
   obtain ⟨cP,fV⟩:=KM;have a8:=RZ (v2::r) cP fV U;simp only [U] at h;cases nT<;>cases cP<;>simp at h<;>(obtain ⟨rfl,rfl⟩:=h;simp [a8])
theorem RN: ∀(L:List al) (l:List (List UInt8)),xh L=some l→L=l.map al.str
 |[],l,h=>by have bT:= ‹bq›;simp [xh] at h
 |[v],l,h=>by cases v<;>simp [xh] at h;subst h;rfl
 |v::v2::r,l,h=>by
  cases v<;>simp only [xh] at h<;>try (cases h;done)
  cases U:xh (v2::r) with
  |none=>simp [U] at h
  |some fV=>
   have a8:=RN (v2::r) fV U;simp [U] at h;subst h;simp [a8]
def ft (n s:Nat)(L:List al):Cells:=
 match xg L with
 |some (k,l)=>bif Nat.beq s 1 && Nat.beq l.length n then .ints k l else .fn n s (fun i j=>L.getD (i*s+j) .any)
 |none=>match xh L with
  |some l=>bif Nat.beq s 1 && Nat.beq l.length n then .strs l else .fn n s (fun i j=>L.getD (i*s+j) .any)
  |none=> .fn n s (fun i j=>L.getD (i*s+j) .any)
theorem St (n s:Nat)(L:List al):(ft n s L).len=n∧(ft n s L).aC=s∧ ∀i j,i<n→j<s→(ft n s L).at i j=L.getD (i*s+j) .any:=by
 unfold ft;cases h:xg L with
 |some KM=>
  obtain ⟨k,l⟩:=KM;simp only;cases ak:(Nat.beq s 1 && Nat.beq l.length n) with
  |false=>exact ⟨rfl,rfl,fun _ _ _ _=>rfl⟩
  |true=>
   simp only [ei] at ak;have dX:=ot ak.1;have eu:=ot ak.2;have cv:=RZ L k l h;subst dX eu;refine ⟨I,I,fun i j aa ae=> ?_⟩;have:j=0:=J;subst this;subst cv;simp [Cells.at,List.getD,aa]
 |none=>
  cases ab:xh L with
  |none=>exact ⟨rfl,rfl,fun _ _ _ _=>rfl⟩
  |some l=>
   simp only;cases ak:(Nat.beq s 1 && Nat.beq l.length n) with
   |false=>exact ⟨rfl,rfl,fun _ _ _ _=>rfl⟩
   |true=>
    simp only [ei] at ak;have dX:=ot ak.1;have eu:=ot ak.2;have cv:=RN L l ab;subst dX eu;refine ⟨I,I,fun i j aa ae=> ?_⟩;have:j=0:=J;subst this;subst cv;simp [Cells.at,List.getD,aa]
def qG (zs:List al):Nat→List al
 |0=>[]
 |n+1=>zs++qG zs n
theorem Ln (zs:List al)(n:Nat):(qG zs n).length=n*zs.length:=by
 have bT:= ‹bq›;induction n with
 |zero=>simp [qG]
 |succ n a8=>simp [qG,a8,ef];omega
theorem ahp (zs:List al)(bw:0<zs.length)(n:Nat): ∀j,j<n*zs.length→(qG zs n).getD j .any=zs.getD (j%zs.length) .any:=by
 have bT:= ‹bq›;induction n with
 |zero=>intro j ae;simp at ae
 |succ n a8=>
  intro j ae;rw [ef] at ae;by_cases h:j<zs.length
  ·rw [mK h];simp [qG,List.getD,oz,h]
  ·have e:j%zs.length=(j-zs.length)%zs.length:=by have:j=zs.length+(j-zs.length):=J;rw [this,Nat.add_mod_left];simp
   rw [e,←a8 (j-zs.length) J];simp [qG,List.getD,oz,h]
theorem Ru {t e:TypeId}{n:Nat}{parts:List (Nat×Operand)}{it:TypeInfo}{z:Value}{zs L:List al}{l:List (Nat×al)}(bs:P.underlying t=some (.slice e))(aa:P.info? e=some it)(bw:it.zero=some z)(nR:uk z=some zs)(cq:it.size=zs.length)(eE:Nat.blt 0 zs.length=true)(wy:Nat.ble (n*zs.length) 16777216=true)(au:qD fr parts=some l)(aN:rI (fun i=>some (i*zs.length,zs.length)) (qG zs n) l=some L){w:World}{a:Act}{σ:Nat→Option bQ}{S:Nat→Prop}(ad:b6 c w a σ S fn.ntmps fr H):
 ∃cs,p1 w S σ cs L∧cs.size=n*zs.length∧(Instr.buildSlice t n (parts.toArray.map fun (i,x)=>(i,a.eval x))).run P w= .ok (.slice (some ⟨w.heap.size,0,none⟩) n n) (w.alloc (.cells cs e (0,0))):=by
 obtain ⟨iA,jb⟩:=DR (w:=w) (S:=S) (σ:=σ) nR;have FP:0<zs.length:=ir eE;have alJ:n*zs.length≤16777216:=ir wy;have aO:p1 w S σ ((Array.range (n*zs.length)).map (z.cells[· %z.cells.size]!)) (qG zs n):=by
  refine ⟨by simp [Ln],fun j ae=> ?_⟩;rw [Ln] at ae;rw [ahp zs FP n j ae];have hm:j%zs.length<zs.length:=kA _ FP;have aD:((Array.range (n*zs.length)).map (z.cells[· %z.cells.size]!)).getD j undef=z.cells.getD (j%zs.length) undef:=by
   rw [iA];have:j%zs.length<z.cells.size:=by rw [iA];exact hm
   simp [Array.getD,ae,this]
  rw [aD];exact jb _ hm
 obtain ⟨cs,g1,g2⟩:=Mb l _ _ (qG zs n) L aO (Lt ad parts l au) aN;have cv:L.length=n*zs.length:=by
  have key: ∀(ig:List (Nat×al)) (M ED:List al),rI (fun i=>some (i*zs.length,zs.length)) M ig=some ED→ED.length=M.length:=by
   intro ig;induction ig with
   |nil=>intro M ED h;simp [rI] at h;rw [h]
   |cons p r a8=>
    intro M ED h;obtain ⟨i,v⟩:=p;simp only [rI] at h;cases av:v.uI with
    |none=>simp [av] at h
    |some l=>
     simp only [av] at h;cases ak:(Nat.beq l.length zs.length && Nat.ble (i*zs.length+zs.length) M.length) with
     |false=>simp [ak] at h
     |true=>
      simp only [ak,kZ] at h;rw [a8 _ _ h,agw]
  rw [key l _ L aN,Ln]
 refine ⟨cs,g2,by rw [g2.1,cv],?_⟩;have Z8: ¬(16777216<n*zs.length):=J;have uP:Instr.fill (fun i=>some (i*zs.length,zs.length)) ((Array.range (n*zs.length)).map (z.cells[· %z.cells.size]!)) (parts.map fun (i,x)=>(i,a.eval x))=some cs:=g1;by_cases tl:n*zs.length=0
 ·have iX: ∀f:Nat→Value,Array.map f (Array.range 0)= #[]:=fun f=>by apply Array.eq_empty_of_size_eq_zero;simp
  rw [tl,iX] at uP;simp [Instr.buildSlice,run_underlying bs,sizeOf,typeInfo,aa,cq,tl,iX,uP,newRow,newObj,Sem.run]
 ·simp [Instr.buildSlice,run_underlying bs,sizeOf,typeInfo,aa,cq,tl,Z8,zeroValue,bw,uP,newRow,newObj,Sem.run]
theorem tF {all:Array Oper}{d:Nat}{t e:TypeId}{n:Nat}{parts:List (Nat×Operand)}{ty:TypeId}{pos:String}{after:Array Edge}{rest:List Oper}{it:TypeInfo}{z:Value}{zs L:List al}{l:List (Nat×al)}{dG:Cells}(bs:P.underlying t=some (.slice e))(aa:P.info? e=some it)(bw:it.zero=some z)(nR:uk z=some zs)(cq:it.size=zs.length)(eE:Nat.blt 0 zs.length=true)(wy:Nat.ble (n*zs.length) 16777216=true)(au:qD fr parts=some l)(aN:rI (fun i=>some (i*zs.length,zs.length)) (qG zs n) l=some L)(gZ:ft n zs.length L=dG)(ao:ai P fn c (.ops false all rest k) ((d,.aA H.length 0 n)::fr) (H++[some ⟨e,dG⟩])):ai P fn c (.ops false all (⟨some d,.buildSlice t n parts.toArray,ty,pos,after,none⟩::rest) k) fr H:=by
 refine uG (fun w a σ S ad=> ?_) ao;subst gZ;obtain ⟨l2,z2,z3⟩:=St n zs.length L;obtain ⟨cs,g1,g2,g3⟩:=Ru bs aa bw nR cq eE wy au aN ad;have aF:n≤n*zs.length:=Nat.le_mul_of_pos_right n (ir eE);have gA:n*zs.length≤16777216:=ir wy;refine ⟨.slice (some ⟨w.heap.size,0,none⟩) n n,_,_,S,?_,ad.alloc (o:=⟨e,ft n zs.length L⟩) (C:=n) (cur:=cs) (by simp [l2]) (by unfold maxLen;omega) (by rw [z2];exact g2) (fun i j aa ae=> ?_),?_⟩
 ·simp only [execOp,Sem.run_bind,g3,Result.andThen_ok];rfl
 ·simp only [l2] at aa;simp only [z2] at ae⊢;have bC:i*zs.length+j<L.length:=by rw [←g1.1,g2];have:(i+1)*zs.length≤n*zs.length:=fo _ J;rw [ef] at this;omega
  obtain ⟨gx,a2⟩:=g1.2 _ bC;rw [z3 i j aa ae];refine ⟨cs.getD (i*zs.length+j) undef,?_,gx,a2⟩;have:i*zs.length+j<cs.size:=by rw [g1.1];exact bC
  simp [Array.getD,this]
 ·have:=bp.aA (w:=w.alloc (.cells cs e (0,0))) (S:=S) (cN σ H.length (.at w.heap.size zs.length n)) H.length 0 n w.heap.size zs.length n n (by simp [cN]) J J;simpa [z2] using this
def cV:al→Bool
 | .aA _ _ _=>false
 | .ptr _ _ _=>false
 | .fn _ l=>eR l
 | .agg l=>eR l
 | .cd l=>eR l
 | .mp _=>false
 |_=>true
where eR:List al→Bool
 |[]=>true
 |v::r=>cV v && eR r
theorem vp {l:List al}(h:cV.eR l=true)(i:Nat)(aa:i<l.length):cV (l.getD i .any)=true:=by
 have bT:= ‹bq›;induction l generalizing i with
 |nil=>simp at aa
 |cons v r a8=>
  simp only [cV.eR,ei] at h;cases i with
  |zero=>simpa using h.1
  |succ i=>simpa using a8 h.2 i (by simpa using aa)
theorem bp.closed {w:World}{S:Nat→Prop}{σ:Nat→Option bQ}{x:al}{v:Value}(h:bp w S σ x v):cV x=true→ ∀bu,bp w S bu x v:=by
 induction h with
 |int=>intros;constructor
 |bool=>intros;constructor
 |str=>intros;constructor
 |nil=>intros;constructor
 |jJ=>intros;constructor
 |ro σ c i len b o cap val e1 hlen av ah U a8=>intro _ bu;exact .ro _ _ _ _ _ _ _ val e1 hlen av ah U
 |aA=>intro h;cases h
 |hW=>intro h;cases h
 |de σ c i j b o val e1 av ah U a8=>intro _ bu;exact .de _ _ _ _ _ _ val e1 av ah U
 |ptr=>intro h;cases h
 |oP=>intros;constructor
 |fn σ f cap vs au ah a8=>intro aF bu;exact .fn _ _ _ _ au (fun i aa=>a8 i aa (vp aF i aa) _)
 |oO=>intros;constructor
 |iface=>intros;constructor
 |nd=>intros;constructor
 |agg σ l vs au ah U a8=>intro aF bu;exact .agg _ _ _ au (fun i aa=>a8 i aa (vp aF i aa) _) U
 |cd σ l vs au ah a8=>intro aF bu;exact .cd _ _ _ au (fun i aa=>a8 i aa (vp aF i aa) _)
 |mp=>intro h;cases h
 |jK σ ks vs b es clock e e1 ak aF au hd he ao ah=>intro _ bu;exact .jK _ _ _ b es clock e e1 ak aF au hd he ao ah
 |any=>intros;constructor
theorem iG {all:Array Oper}{d:Nat}{t e:TypeId}{n:Nat}{parts:List (Nat×Operand)}{ty:TypeId}{pos:String}{after:Array Edge}{rest:List Oper}{it:TypeInfo}{z:Value}{zs L:List al}{l:List (Nat×al)}{dG:Cells}(bs:P.underlying t=some (.slice e))(aa:P.info? e=some it)(bw:it.zero=some z)(nR:uk z=some zs)(cq:it.size=zs.length)(eE:Nat.blt 0 zs.length=true)(wy:Nat.ble (n*zs.length) 16777216=true)(au:qD fr parts=some l)(aN:rI (fun i=>some (i*zs.length,zs.length)) (qG zs n) l=some L)(gZ:ft n zs.length L=dG)(aF:cV.eR L=true)(ao:ai P fn c (.ops false all rest k) ((d,.ro dG 0 n)::fr) H):ai P fn c (.ops false all (⟨some d,.buildSlice t n parts.toArray,ty,pos,after,none⟩::rest) k) fr H:=by
 refine uG (fun w a σ S ad=> ?_) ao;subst gZ;obtain ⟨l2,z2,z3⟩:=St n zs.length L;obtain ⟨cs,g1,g2,g3⟩:=Ru bs aa bw nR cq eE wy au aN ad;have hk: ∀d j,d<n→j<zs.length→(w.alloc (.cells cs e (0,0))).cell? ⟨w.heap.size,0+d*zs.length+j,none⟩=some (cs.getD (d*zs.length+j) undef)∧bp w S σ (L.getD (d*zs.length+j) .any) (cs.getD (d*zs.length+j) undef)∧(cs.getD (d*zs.length+j) undef).oneCell'=true∧d*zs.length+j<L.length:=by
  intro d j hd ae;have bC:d*zs.length+j<L.length:=by rw [←g1.1,g2];have:(d+1)*zs.length≤n*zs.length:=fo _ J;rw [ef] at this;omega
  obtain ⟨gx,a2⟩:=g1.2 _ bC;have aw:d*zs.length+j<cs.size:=by rw [g1.1];exact bC
  refine ⟨?_,gx,a2,bC⟩;have:=heap_alloc_new w (.cells cs e (0,0));unfold World.cell?;simp only [this];simp [Array.getD,aw]
 refine ⟨.slice (some ⟨w.heap.size,0,none⟩) n n,_,σ,_,?_,ad.Wj (.cells cs e (0,0)),?_⟩
 ·simp only [execOp,Sem.run_bind,g3,Result.andThen_ok];rfl
 ·refine .ro _ _ _ _ _ _ _ (fun d j=>cs.getD (d*zs.length+j) undef) (.inr I) (bR _) (fun d j hd ae=> ?_) (fun d j hd ae=> ?_) (fun d j hd ae=> ?_)
  ·rw [z2] at ae⊢;exact (hk d j hd ae).1
  ·rw [z2] at ae;rw [c1,z3 d j hd ae];obtain ⟨_,ab,_,bg⟩:=hk d j hd ae;have bF:=ab.closed (vp aF _ bg) (fun _=>none);exact bF.mono (fun _ h=> .inl h) (fun b ak=>Below.heap_alloc _ _ b (ad.ad.small b ak)) _ (fun _ _ h=>h)
  ·rw [z2] at ae;exact (hk d j hd ae).2.2.1
end
end Go.ai
namespace Go.ai
variable [bq]
open Go.RowKit
mutual
def al.forget (h:Nat):al→al
 | .aA aL i n=>bif Nat.beq aL h then .any else .aA aL i n
 | .ptr aL i j=>bif Nat.beq aL h then .any else .ptr aL i j
 | .fn f l=> .fn f (al.jD h l)
 | .agg l=> .agg (al.jD h l)
 | .cd l=> .cd (al.jD h l)
 | .mp aL=>bif Nat.beq aL h then .any else .mp aL
 |v=>v
def al.jD (h:Nat):List al→List al
 |[]=>[]
 |v::r=>v.forget h::al.jD h r
end
theorem rp (h:Nat)(l:List al):(al.jD h l).length=l.length:=by
 have bT:= ‹bq›;induction l with
 |nil=>rfl
 |cons v r a8=>simp [al.jD,a8]
theorem AP (h:Nat)(l:List al)(i:Nat)(aa:i<l.length):(al.jD h l).getD i .any=(l.getD i .any).forget h:=by
 have bT:= ‹bq›;induction l generalizing i with
 |nil=>simp at aa
 |cons v r a8=>cases i with
  |zero=>rfl
  |succ i=>simpa [al.jD] using a8 i (by simpa using aa)
theorem bp.forget {w:World}{S:Nat→Prop}{σ:Nat→Option bQ}{x:al}{v:Value}{h:Nat}(ah:bp w S σ x v): ∀bu,(∀aL,aL≠h→bu aL=σ aL)→bp w S bu (x.forget h) v:=by
 induction ah with
 |int=>intros;constructor
 |bool=>intros;constructor
 |str=>intros;constructor
 |nil=>intros;constructor
 |jJ=>intros;constructor
 |ro σ c i len b o cap val e1 hlen av ah U a8=>intro bu _;exact .ro _ _ _ _ _ _ _ val e1 hlen av ah U
 |aA σ aL i len b s C cap bG hlen jE=>
  intro bu ax;simp only [al.forget];by_cases he:aL=h
  ·subst he;simp only [ou,kZ];exact .any _ _
  ·simp only [db he,nA];exact .aA _ _ _ _ _ _ _ _ (by rw [ax aL he];exact bG) hlen jE
 |hW σ aL bG=>
  intro bu ax;simp only [al.forget];by_cases he:aL=h
  ·subst he;simp only [ou,kZ];exact .any _ _
  ·simp only [db he,nA];exact .hW _ _ (by rw [ax aL he];exact bG)
 |de σ c i j b o val e1 av ah U a8=>intro bu _;exact .de _ _ _ _ _ _ val e1 av ah U
 |ptr σ aL i j b s C bG=>
  intro bu ax;simp only [al.forget];by_cases he:aL=h
  ·subst he;simp only [ou,kZ];exact .any _ _
  ·simp only [db he,nA];exact .ptr _ _ _ _ _ _ _ (by rw [ax aL he];exact bG)
 |oP=>intros;constructor
 |fn σ f cap vs au ah a8=>intro bu ax;exact .fn _ _ _ _ (by rw [rp];exact au) (fun i aa=>by rw [rp] at aa;rw [AP h cap i aa];exact a8 i aa bu ax)
 |oO=>intros;constructor
 |iface=>intros;constructor
 |nd=>intros;constructor
 |agg σ l vs au ah U a8=>intro bu ax;exact .agg _ _ _ (by rw [rp];exact au) (fun i aa=>by rw [rp] at aa;rw [AP h l i aa];exact a8 i aa bu ax) (fun i aa=>U i (by rwa [rp] at aa))
 |cd σ l vs au ah a8=>intro bu ax;exact .cd _ _ _ (by rw [rp];exact au) (fun i aa=>by rw [rp] at aa;rw [AP h l i aa];exact a8 i aa bu ax)
 |mp σ aL b bG=>
  intro bu ax;simp only [al.forget];by_cases he:aL=h
  ·subst he;simp only [ou,kZ];exact .any _ _
  ·simp only [db he,nA];exact .mp _ _ _ (by rw [ax aL he];exact bG)
 |jK σ ks vs b es clock e e1 ak aF au hd he ao ah=>intro bu ax;exact .jK _ _ _ b es clock e e1 ak aF au hd he ao ah
 |any=>intros;constructor
def Cells.forget (h:Nat):Cells→Cells
 | .ints k l=> .ints k l
 | .strs l=> .strs l
 | .box l=> .box (al.jD h l)
 | .mp ks vs=> .mp (al.jD h ks) (al.jD h vs)
 | .fn n s f=> .fn n s (fun i j=>(f i j).forget h)
theorem Cells.xU (h:Nat)(c:Cells):(c.forget h).len=c.len:=by have bT:= ‹bq›;cases c<;>rfl
theorem Cells.E5 (h:Nat)(c:Cells):(c.forget h).aC=c.aC:=by cases c<;>first|rfl|exact rp _ _
theorem Cells.E4 (h:Nat)(c:Cells)(i j:Nat)(ae:j<c.aC):(c.forget h).at i j=(c.at i j).forget h:=by
 cases c with
 |box l=>exact AP h l j ae
 |_=>rfl
def iC (h:Nat):Option bk→Option bk
 |some o=>some ⟨o.ty,o.c.forget h⟩
 |none=>none
def cQ (h:Nat):aX→aX
 |[]=>[]
 |o::r=>iC h o::cQ h r
def np (h:Nat):Fr→Fr
 |[]=>[]
 |(t,v)::r=>(t,v.forget h)::np h r
theorem GV (h:Nat)(H:aX)(i:Nat):(cQ h H)[i]? =(H[i]?).map (iC h):=by
 have bT:= ‹bq›;induction H generalizing i with
 |nil=>simp [cQ]
 |cons o r a8=>cases i with
  |zero=>simp [cQ]
  |succ i=>simpa [cQ] using a8 i
theorem tD (h:Nat)(H:aX):(cQ h H).length=H.length:=by
 have bT:= ‹bq›;induction H with
 |nil=>rfl
 |cons o r a8=>simp [cQ,a8]
theorem Dv (h:Nat)(fr:Fr)(t:Nat):look t (np h fr)=(look t fr).map (al.forget h):=by
 have bT:= ‹bq›;induction fr with
 |nil=>rfl
 |cons p r a8=>
  obtain ⟨u,v⟩:=p;simp only [np,look];cases Nat.beq t u<;>simp [a8]
theorem Lays.forget {w w':World}{S bY:Nat→Prop}{σ bu:Nat→Option bQ}{t:TypeId}{c:Cells}{b:Nat}{cur:Array Value}{C:Nat}{h:Nat}(ak:w'.heap[b]? =w.heap[b]?)(ah: ∀{x v},bp w S σ x v→bp w' bY bu (x.forget h) v)(cv:Lays w S σ ⟨t,c⟩ b cur C):Lays w' bY bu ⟨t,c.forget h⟩ b cur C:=by
 have bT:= ‹bq›;cases cv with
 |row mk h hm dR=>exact .row mk (by rw [ak];exact h) hm dR
 |map ks vs es clock av dR h aF au hd he=>
  simp only at av;subst av;exact .map _ _ es clock I dR (by rw [ak];exact h) (by rw [rp];exact aF) (by rw [rp,rp];exact au) hd (fun i aa=>by
   rw [rp] at aa;obtain ⟨e,aD,aE,bM⟩:=he i aa;exact ⟨e,aD,by rw [AP _ _ _ aa];exact ah aE,by rw [AP _ _ _ J];exact ah bM⟩)
theorem b6.KS {c:Ctx}{w w':World}{a:Act}{σ:Nat→Option bQ}{S:Nat→Prop}{n:Nat}{fr:Fr}{H:aX}(ad:b6 c w a σ S n fr H){h:Nat}{o:bk}(aU:H[h]? =some (some o)){c':Cells}{b C:Nat}{cur:Array Value}{mk:Nat×Nat}(CM:w'.os=w.os)(CN:w'.output=w.output)(CU:w'.tape=w.tape)(yh:w.heap.size≤w'.heap.size)(cq:c'.aC=o.c.aC)(oJ: ∀b',b'<w.heap.size→b'≠b→w'.heap[b']? =w.heap[b']?)(ak:w'.heap[b]? =some (.cells cur o.ty mk))(iJ:cur.size=C*c'.aC)(dR:C≤maxLen)(hlen:c'.len≤C)(zV:w.heap.size≤b∨σ h=some (.at b o.c.aC C))(bK: ¬c.fix h∨σ h=some (.at b o.c.aC C))(av: ∀i j,i<c'.len→j<c'.aC→ ∃v,cur[i*c'.aC+j]? =some v∧bp w S σ (c'.at i j) v∧v.oneCell'=true)(tm: ∀i j,i<c'.len→j<c'.aC→(c'.at i j).forget h=c'.at i j)(nN:mk.2≤mk.1∨cur.size≤mk.1):
 b6 c w' a (cN σ h (.at b c'.aC C)) S n (np h fr) ((cQ h H).set h (some ⟨o.ty,c'⟩)):=by
 have bC:h<H.length:=(gL.1 aU).1;have wm:h<(cQ h H).length:=by rw [tD];exact bC
 have e1: ¬S b:=by
  rcases zV with aN|aN
  ·intro ax;have:=ad.ad.small b ax;omega
  ·exact (ad.obj aU aN).2.choose_spec.2.2.2.2.1
 have dp: ∀b',S b'→w'.heap[b']? =w.heap[b']? :=fun b' ax=>oJ b' (ad.ad.small b' ax) (fun e=>e1 (e▸ax));have tq: ∀aL,aL≠h→cN σ h (.at b c'.aC C) aL=σ aL:=fun aL he=>by simp [cN,he]
 have ri: ∀{x v},bp w S σ x v→bp w' S (cN σ h (.at b c'.aC C)) (x.forget h) v:=fun ah=>(ah.forget _ tq).mono (fun _ h=>h) dp _ (fun _ _ h=>h);have cS: ∀aL o',((cQ h H).set h (some ⟨o.ty,c'⟩))[aL]? =some (some o')→(aL=h∧o'=⟨o.ty,c'⟩)∨(aL≠h∧ ∃c5,H[aL]? =some (some c5)∧o'=⟨c5.ty,c5.c.forget h⟩):=by
  intro aL o' aj;by_cases he:aL=h
  ·subst he;simp only [nB wm,dy] at aj;exact .inl ⟨I,aj.symm⟩
  ·rw [k0 (p4 he),GV] at aj;cases aB:H[aL]? with
   |none=>simp [aB] at aj
   |some k9=>cases k9 with
    |none=>simp [aB,iC] at aj
    |some c5=>
     simp [aB,iC] at aj;exact .inr ⟨he,c5,I,aj.symm⟩
 have hold: ∀aL c5 b' cl cF,aL≠h→H[aL]? =some (some c5)→σ aL=some (.at b' cl cF)→b'≠b∧b'<w.heap.size:=by
  intro aL c5 b' cl cF b2 qg eg;obtain ⟨_,iu,g,_⟩:=ad.obj qg eg;have U:=g.lt;refine ⟨fun e=> ?_,U⟩;subst e;rcases zV with aN|aN
  ·omega
  ·exact b2 (ad.ad.hi aL h c5 o b' cl cF o.c.aC C qg aU eg aN)
 refine ⟨⟨?_,?_,fun b' ax=>hE (ad.ad.small b' ax) yh,fun aL au=> ?_⟩,?_,ad.defers,ad.size,fun t v au=> ?_⟩
 ·intro aL o' aj;rcases cS aL o' aj with ⟨rfl,rfl⟩|⟨b2,c5,qg,rfl⟩
  ·right;refine ⟨b,C,cur,by simp [cN],.row mk ak nN dR,iJ,Nat.le_succ_of_le dR,hlen,e1,fun i j aa ae=> ?_⟩;obtain ⟨v,aD,aE,bM⟩:=av i j aa ae;refine ⟨v,aD,?_,bM⟩;have:=ri aE
   rwa [tm i j aa ae] at this
  ·rcases ad.ad.live aL c5 qg with ⟨aF,iZ⟩|⟨b',cF,iu,g1,g2,g3,g4,g5,g6,g7⟩
   ·left;exact ⟨by rw [tq aL b2];exact aF,by simpa [Cells.xU] using iZ⟩
   ·right;obtain ⟨sk,zQ⟩:=hold aL c5 b' _ cF b2 qg g1;simp only [Cells.xU,Cells.E5];refine ⟨b',cF,iu,by rw [tq aL b2];exact g1,g2.forget (oJ b' zQ sk) ri,g3,g4,g5,g6,fun i j aa ae=> ?_⟩;obtain ⟨v,aD,aE,bM⟩:=g7 i j aa ae;exact ⟨v,aD,by rw [Cells.E4 h c5.c i j ae];exact ri aE,bM⟩
 ·intro U ab o1 o2 b' s1 gl s2 fY g1 g2 aD aE;rcases cS U o1 g1 with ⟨rfl,rfl⟩|⟨mr,cY,bO,rfl⟩<;>rcases cS ab o2 g2 with ⟨rfl,rfl⟩|⟨KT,eT,bW,rfl⟩
  ·rfl
  ·simp only [cN,fS,dy,bQ.at.injEq] at aD;rw [tq ab KT] at aE;exact absurd aD.1.symm (hold ab eT b' s2 fY KT bW aE).1
  ·simp only [cN,fS,dy,bQ.at.injEq] at aE;rw [tq U mr] at aD;exact absurd aE.1.symm (hold U cY b' s1 gl mr bO aD).1
  ·rw [tq U mr] at aD;rw [tq ab KT] at aE;exact ad.ad.hi U ab _ _ b' s1 gl s2 fY bO bW aD aE
 ·simp only [dj,tD] at au;rw [tq aL J];exact ad.ad.hG aL au
 ·refine ⟨CM.trans ad.bh.os,CN.trans ad.bh.output,CU.trans ad.bh.tape,dT ad.bh.size yh,fun b' eg aj=> ?_,ad.bh.hD,ad.bh.e4,fun aL aN=> ?_,fun aL aN=>by simpa [tD] using ad.bh.iY aL aN,?_⟩
  ·have b2:b'≠b:=by
    rintro rfl;rcases zV with aN|aN
    ·have:=ad.bh.size;omega
    ·rcases ad.bh.own h o b' _ C aU aN with U|U
     ·exact aj U
     ·omega
   rw [oJ b' (by have:=ad.bh.size;omega) b2];exact ad.bh.block b' eg aj
  ·by_cases he:aL=h
   ·subst he;rcases bK with U|U
    ·exact absurd aN U
    ·rw [←ad.bh.fixed aL aN,U];simp [cN,cq]
   ·rw [tq aL he];exact ad.bh.fixed aL aN
  ·intro aL o' b' cl cF aj eg;rcases cS aL o' aj with ⟨rfl,rfl⟩|⟨b2,c5,qg,rfl⟩
   ·simp only [cN,fS,dy,bQ.at.injEq] at eg;obtain ⟨rfl,_,_⟩:=eg;rcases zV with aN|aN
    ·right;have:=ad.bh.size;omega
    ·exact ad.bh.own aL o b _ C aU aN
   ·rw [tq aL b2] at eg;exact ad.bh.own aL c5 b' cl cF qg eg
 ·rw [Dv] at au;cases aB:look t fr with
  |none=>simp [aB] at au
  |some v0=>
   simp [aB] at au;subst au;exact ⟨(ad.e8 t v0 aB).1,ri (ad.e8 t v0 aB).2⟩
theorem b6.Qg {c:Ctx}{w w':World}{a:Act}{σ:Nat→Option bQ}{S:Nat→Prop}{n:Nat}{fr:Fr}{H:aX}(ad:b6 c w a σ S n fr H){h:Nat}{o:bk}(aU:H[h]? =some (some o)){c':Cells}{b C:Nat}{cur:Array Value}(CM:w'.os=w.os)(CN:w'.output=w.output)(CU:w'.tape=w.tape)(yh:w.heap.size≤w'.heap.size)(cq:c'.aC=o.c.aC)(oJ: ∀b',b'<w.heap.size→b'≠b→w'.heap[b']? =w.heap[b']?)(ak:w'.heap[b]? =some (.cells cur o.ty (0,0)))(iJ:cur.size=C*c'.aC)(dR:C≤maxLen)(hlen:c'.len≤C)(zV:w.heap.size≤b∨σ h=some (.at b o.c.aC C))(bK: ¬c.fix h∨σ h=some (.at b o.c.aC C))(av: ∀i j,i<c'.len→j<c'.aC→ ∃v,cur[i*c'.aC+j]? =some v∧bp w S σ (c'.at i j) v∧v.oneCell'=true)(tm: ∀i j,i<c'.len→j<c'.aC→(c'.at i j).forget h=c'.at i j):
 b6 c w' a (cN σ h (.at b c'.aC C)) S n (np h fr) ((cQ h H).set h (some ⟨o.ty,c'⟩)):=
 ad.KS aU CM CN CU yh cq oJ ak iJ dR hlen zV bK av tm (.inl (bR _))
end Go.ai
namespace Go.ai
variable [bq]
open Go.RowKit
theorem Dl (P:Program)(g o:Nat)(t:TypeId)(mk:Nat×Nat): ∀(vs:List Value) (i:Nat) (cur:Array Value) (w:World),w.heap[g]? =some (.cells cur t mk)→(mk.2≤mk.1∨cur.size≤mk.1)→o+i+vs.length≤cur.size→(∀v∈vs,v.oneCell'=true)→
 (storeCells ⟨g,o,none⟩ vs i).run P w= .ok () (w.setRow g (cur.toList.take (o+i)++vs++cur.toList.drop (o+i+vs.length)).toArray)
 |[],i,cur,w,cX,_,_,_=>by have bT:= ‹bq›;simp only [storeCells,kB,kd,eQ,rV,BY];rw [setRow_self w g cur t mk cX];rfl
 |v::rest,i,cur,w,cX,hm,au,U=>by
  have aa:o+i<cur.size:=by simp at au;omega
  have YO:(⟨g,o,none⟩:Addr).add i=⟨g,o+i,none⟩:=Addr.add_lit _ _ _;have mU:w.cell? ⟨g,o+i,none⟩=some cur[o+i]:=by simp [World.cell?,cX,aa]
  have Zu:w.frozen? ⟨g,o+i,none⟩=false:=by simp [World.frozen?,cX];omega
  have dH:(store ((⟨g,o,none⟩:Addr).add i) v).run P w= .ok () (w.setRow g (cur.setIfInBounds (o+i) v)):=by rw [YO,run_store P w _ v _ (U v bZ),mU];simp [Zu,setCell_eq_setRow w g (o+i) cur t mk v cX]
  have a8:=Dl P g o t mk rest (i+1) (cur.setIfInBounds (o+i) v) (w.setRow g (cur.setIfInBounds (o+i) v)) (setRow_heap w g cur _ t _ cX) (by simpa using hm) (by simp at au⊢;omega) (fun x ar=>U x (by simp [ar]));simp only [storeCells,Sem.run_bind,dH,Result.andThen_ok,a8,setRow_setRow];congr 3;have e:=list_seg_step cur.toList (o+i) v rest (by simp at au⊢;omega);simpa [Array.toList_setIfInBounds,kC] using e
theorem agh {P:Program}(w:World)(t ty e:TypeId)(inf:TypeInfo)(bs:P.underlying t=some (.slice e))(aa:P.info? e=some inf)(g n cap:Nat)(cur:Array Value){mk:Nat×Nat}(cX:w.heap[g]? =some (.cells cur e mk))(hm:mk.2≤mk.1∨cur.size≤mk.1)(a:Addr)(m c:Nat)(news:List Value)(au:news.length=m*inf.size)(Z3: ∀j u,news[j]? =some u→w.cell? (a.add j)=some u)(U: ∀u∈news,u.oneCell'=true)(CR:n+m≤cap)(th:n*inf.size+news.length≤cur.size):
 (Builtin.append_ #[t,t] ty #[.slice (some ⟨g,0,none⟩) n cap,.slice (some a) m c]).run P w=
  .ok (.slice (some ⟨g,0,none⟩) (n+m) cap) (w.setRow g (cur.toList.take (n*inf.size)++news++cur.toList.drop (n*inf.size+news.length)).toArray):=by have bT:= ‹bq›;have aN:=run_firstCells_some (P:=P) w inf.size m a m c news au Z3;have dH:=Dl P g (n*inf.size) e mk news 0 cur w cX hm (by simpa using th) U;simp only [eQ] at dH;simp [Builtin.append_,run_underlying bs,sizeOf,typeInfo,aa,Builtin.lenOf,CR,aN,Addr.add_lit,dH]
def BN (H:aX):al→Option (Cells×Nat×Nat)
 | .ro c i m=>some (c,i,m)
 | .aA h i m=>match H[h]? with
  |some (some o)=>some (o.c,i,m)
  |_=>none
 | .nil=>some (.ints .i64 [],0,0)
 |_=>none
def Src (w:World)(S:Nat→Prop)(σ:Nat→Option bQ)(c:Cells)(i m:Nat)(x:Value):Prop:=
 (m=0∧ ∃a cap,x= .slice a 0 cap)∨ ∃(iV:Addr) (cap:Nat) (news:List Value),x= .slice (some iV) m cap∧news.length=m*c.aC∧(∀j u,news[j]? =some u→w.cell? (iV.add j)=some u)∧(∀u∈news,u.oneCell'=true)∧
  ∀d j,d<m→j<c.aC→ ∃u,news[d*c.aC+j]? =some u∧bp w S σ (c.at (i+d) j) u
theorem Xx {d s j:Nat}(ae:j<s):(d*s+j)/s=d∧(d*s+j)%s=j:=by have bT:= ‹bq›;rw [gM,Nat.mul_add_div J,Nat.mul_add_mod,ox ae,mK ae];exact ⟨J,I⟩
theorem b6.src {c:Ctx}{w:World}{a:Act}{σ:Nat→Option bQ}{S:Nat→Prop}{n:Nat}{fr:Fr}{H:aX}(ad:b6 c w a σ S n fr H){v:al}{x:Value}{dG:Cells}{i m:Nat}(ah:bp w S σ v x)(ax:BN H v=some (dG,i,m))(dO: ∀h,v= .aA h i m→i+m≤dG.len):Src w S σ dG i m x:=by
 cases ah<;>simp only [BN] at ax<;>try (cases ax;done)
 case nil=>
  simp only [dy,xy] at ax;obtain ⟨rfl,rfl,rfl⟩:=ax;exact .inl ⟨I,none,0,I⟩
 case jJ c' aI mc cap=>
  simp only [dy,xy] at ax;obtain ⟨rfl,rfl,rfl⟩:=ax;exact .inl ⟨I,mc,cap,I⟩
 case ro c' aI len b o cap val dp hlen av ah U=>
  simp only [dy,xy] at ax;obtain ⟨rfl,rfl,rfl⟩:=ax;right;refine ⟨⟨b,o,none⟩,cap,(List.range (len*c'.aC)).map (fun t=>val (t/c'.aC) (t%c'.aC)),I,bZ,?_,?_,?_⟩
  ·intro j u hu;have ae:j<len*c'.aC:=by simpa using (gL.1 hu).1
   have eE:0<c'.aC:=xz (fun h=>by rw [h] at ae;simp at ae);have hd:j/c'.aC<len:=(Nat.div_lt_iff_lt_mul eE).2 ae;have hm:j%c'.aC<c'.aC:=kA _ eE;simp only [me,uw ae,rW,dy] at hu;subst hu;have:=av (j/c'.aC) (j%c'.aC) hd hm;rw [Addr.add_lit];have e:o+j/c'.aC*c'.aC+j%c'.aC=o+j:=by rw [kC,Nat.div_add_mod']
   rwa [e] at this
  ·intro u hu;obtain ⟨t,bs,rfl⟩:=da.1 hu;have ae:t<len*c'.aC:=by simpa using bs
   have eE:0<c'.aC:=xz (fun h=>by rw [h] at ae;simp at ae);exact U _ _ ((Nat.div_lt_iff_lt_mul eE).2 ae) (kA _ eE)
  ·intro d j hd ae;obtain ⟨aD,aE⟩:=Xx (d:=d) ae;have bC:d*c'.aC+j<len*c'.aC:=by have:(d+1)*c'.aC≤len*c'.aC:=fo _ J;rw [ef] at this;omega
   refine ⟨val d j,by simp [bC,aD,aE],(ah d j hd ae).mono (fun _ h=>h) (fun _ _=>rfl) _ (fun _ _ h=>by cases h)⟩
 case aA h aI len b s C cap hlen jE bG=>
  cases aB:H[h]? with
  |none=>simp [aB] at ax
  |some k9=>cases k9 with
   |none=>simp [aB] at ax
   |some o=>
    simp only [aB,dy,xy] at ax;obtain ⟨rfl,rfl,rfl⟩:=ax;have z1:=dO h rfl;obtain ⟨gA,cur,g1,g2,g3,g4,g5,g6⟩:=ad.obj aB bG;subst gA;by_cases mZ:o.c.aC=0
    ·by_cases hm:len=0
     ·subst hm;exact .inl ⟨rfl,_,_,rfl⟩
     right;refine ⟨⟨b,aI*o.c.aC,none⟩,cap,[],I,by simp [mZ],fun j u hu=>by simp at hu,fun u hu=>by simp at hu,fun d j hd ae=>by omega⟩
    obtain ⟨mk,g1,_,_⟩:=g1.cells mZ;by_cases hm:len=0
    ·subst hm;exact .inl ⟨rfl,_,_,rfl⟩
    right;have iw: ∀t,t<len*o.c.aC→aI*o.c.aC+t<cur.size:=by intro t bs;rw [g2];have:(aI+len)*o.c.aC≤C*o.c.aC:=fo _ J;rw [ef] at this;omega
    refine ⟨⟨b,aI*o.c.aC,none⟩,cap,(List.range (len*o.c.aC)).map (fun t=>cur.getD (aI*o.c.aC+t) undef),I,bZ,?_,?_,?_⟩
    ·intro j u hu;have ae:j<len*o.c.aC:=by simpa using (gL.1 hu).1
     simp only [me,uw ae,rW,dy] at hu;subst hu;have:=iw j ae;simp [World.cell?,Addr.add_lit,g1,Array.getD,this]
    ·intro u hu;obtain ⟨t,bs,rfl⟩:=da.1 hu;have ae:t<len*o.c.aC:=by simpa using bs
     have eE:0<o.c.aC:=xz (fun h=>by rw [h] at ae;simp at ae);have hd:t/o.c.aC<len:=(Nat.div_lt_iff_lt_mul eE).2 ae;obtain ⟨v,aD,_,bM⟩:=g6 (aI+t/o.c.aC) (t%o.c.aC) J (kA _ eE);have e:(aI+t/o.c.aC)*o.c.aC+t%o.c.aC=aI*o.c.aC+t:=by rw [ef,kC,Nat.div_add_mod']
     rw [e] at aD;simp [aD,bM]
    ·intro d j hd ae;obtain ⟨v,aD,aE,_⟩:=g6 (aI+d) j J ae;have bC:d*o.c.aC+j<len*o.c.aC:=by have:(d+1)*o.c.aC≤len*o.c.aC:=fo _ J;rw [ef] at this;omega
     have e:(aI+d)*o.c.aC+j=aI*o.c.aC+(d*o.c.aC+j):=by rw [ef];omega
     rw [e] at aD;exact ⟨v,by simp [bC,aD],aE⟩
 case hW h bG=>
  cases aB:H[h]? with
  |none=>simp [aB] at ax
  |some k9=>cases k9 with
   |none=>simp [aB] at ax
   |some o=>
    simp only [aB,dy,xy] at ax;obtain ⟨rfl,rfl,rfl⟩:=ax;exact .inl ⟨I,none,0,I⟩
def Cells.app (c:Cells)(ea:Cells)(i m:Nat):Option Cells:=
 match c,ea with
 | .ints k l,.ints cP fV=>match k,cP with
  | .i64,.i64=>some (.ints k (l++(fV.drop i).take m))
  | .u8,.u8=>some (.ints k (l++(fV.drop i).take m))
  | .u64,.u64=>some (.ints k (l++(fV.drop i).take m))
  | .i32,.i32=>some (.ints k (l++(fV.drop i).take m))
  | .u32,.u32=>some (.ints k (l++(fV.drop i).take m))
  |_,_=>none
 | .strs l,.strs fV=>some (.strs (l++(fV.drop i).take m))
 |c,ea=>bif Nat.beq c.aC ea.aC then some (.fn (c.len+m) c.aC (fun aI j=>bif Nat.blt aI c.len then c.at aI j else ea.at (i+(aI-c.len)) j)) else none
theorem Cells.Wn {c ea c':Cells}{i m:Nat}(h:c.app ea i m=some c')(dO:i+m≤ea.len):c'.aC=c.aC∧ea.aC=c.aC∧c'.len=c.len+m∧(∀aI j,aI<c.len→j<c.aC→c'.at aI j=c.at aI j)∧ ∀d j,d<m→j<c.aC→c'.at (c.len+d) j=ea.at (i+d) j:=by
 have bT:= ‹bq›;have gen:c'= .fn (c.len+m) c.aC (fun aI j=>bif Nat.blt aI c.len then c.at aI j else ea.at (i+(aI-c.len)) j)→c.aC=ea.aC→
  c'.aC=c.aC∧ea.aC=c.aC∧c'.len=c.len+m∧(∀aI j,aI<c.len→j<c.aC→c'.at aI j=c.at aI j)∧ ∀d j,d<m→j<c.aC→c'.at (c.len+d) j=ea.at (i+d) j:=by
  intro e ax;subst e;refine ⟨I,ax.symm,I,fun aI j aa ae=> ?_,fun d j hd ae=> ?_⟩
  ·have:Nat.blt aI c.len=true:=p5 aa;simp [Cells.at,this]
  ·have:Nat.blt (c.len+d) c.len=false:=by
    cases ak:Nat.blt (c.len+d) c.len with
    |false=>rfl
    |true=>have:=ir ak;omega
   simp [Cells.at,this]
 have Cm:(bif Nat.beq c.aC ea.aC then some (Cells.fn (c.len+m) c.aC (fun aI j=>bif Nat.blt aI c.len then c.at aI j else ea.at (i+(aI-c.len)) j)) else none)=some c'→
  c'.aC=c.aC∧ea.aC=c.aC∧c'.len=c.len+m∧(∀aI j,aI<c.len→j<c.aC→c'.at aI j=c.at aI j)∧ ∀d j,d<m→j<c.aC→c'.at (c.len+d) j=ea.at (i+d) j:=by
  intro h;cases ak:Nat.beq c.aC ea.aC with
  |false=>simp [ak] at h
  |true=>simp only [ak,kZ,dy] at h;exact gen h.symm (ot ak)
 cases c with
 |ints k l=>
  cases ea with
  |ints cP fV=>
   have:c'= .ints k (l++(fV.drop i).take m)∧k=cP:=by simp only [Cells.app] at h;cases k<;>cases cP<;>simp at h<;>exact ⟨h.symm,rfl⟩
   obtain ⟨rfl,rfl⟩:=this;simp only [Cells.len] at dO;refine ⟨I,I,by simp [Cells.len];omega,fun aI j aa ae=> ?_,fun d j hd ae=> ?_⟩
   ·simp only [Cells.len] at aa;simp [Cells.at,List.getD,oz,aa]
   ·have U: ¬l.length+d<l.length:=J;simp [Cells.at,Cells.len,List.getD,oz,hd,U]
  |_=>exact Cm h
 |strs l=>
  cases ea with
  |strs fV=>
   simp only [Cells.app,dy] at h;subst h;simp only [Cells.len] at dO;refine ⟨I,I,by simp [Cells.len];omega,fun aI j aa ae=> ?_,fun d j hd ae=> ?_⟩
   ·simp only [Cells.len] at aa;simp [Cells.at,List.getD,oz,aa]
   ·have U: ¬l.length+d<l.length:=J;simp [Cells.at,Cells.len,List.getD,oz,hd,U]
  |_=>exact Cm h
 |box l=>exact Cm h
 |fn n s f=>exact Cm h
 |mp ks vs=>exact Cm h
def Cells.simple:Cells→Bool
 | .ints _ _=>true
 | .strs _=>true
 |_=>false
theorem b6.k8 {c:Ctx} {w:World} {a:Act} {σ:Nat→Option bQ} {S:Nat→Prop} {n:Nat} {fr:Fr} {H:aX} (ad:b6 c w a σ S n fr H) {h:Nat} {o:bk} (aU:H[h]? =some (some o)) (bG:σ h=some .k8) {c':Cells} (cq:c'.aC=o.c.aC) (hlen:c'.len=0):
 b6 c w a σ S n (np h fr) ((cQ h H).set h (some ⟨o.ty,c'⟩)):=by
 have bC:h<H.length:=(gL.1 aU).1;have wm:h<(cQ h H).length:=by rw [tD];exact bC
 have ri: ∀{x v},bp w S σ x v→bp w S σ (x.forget h) v:=fun ah=>ah.forget _ (fun _ _=>rfl);have cS: ∀aL o',((cQ h H).set h (some ⟨o.ty,c'⟩))[aL]? =some (some o')→(aL=h∧o'=⟨o.ty,c'⟩)∨(aL≠h∧ ∃c5,H[aL]? =some (some c5)∧o'=⟨c5.ty,c5.c.forget h⟩):=by
  intro aL o' aj;by_cases he:aL=h
  ·subst he;simp only [nB wm,dy] at aj;exact .inl ⟨I,aj.symm⟩
  ·rw [k0 (p4 he),GV] at aj;cases aB:H[aL]? with
   |none=>simp [aB] at aj
   |some k9=>cases k9 with
    |none=>simp [aB,iC] at aj
    |some c5=>
     simp [aB,iC] at aj;exact .inr ⟨he,c5,I,aj.symm⟩
 refine ⟨⟨?_,?_,ad.ad.small,fun aL au=>ad.ad.hG aL (by simpa [tD] using au)⟩,⟨ad.bh.os,ad.bh.output,ad.bh.tape,ad.bh.size,ad.bh.block,ad.bh.hD,ad.bh.e4,ad.bh.fixed,fun aL aN=>by simpa [tD] using ad.bh.iY aL aN,?_⟩,ad.defers,ad.size,fun t v au=> ?_⟩
 ·intro aL o' aj;rcases cS aL o' aj with ⟨rfl,rfl⟩|⟨b2,c5,qg,rfl⟩
  ·exact .inl ⟨bG,hlen⟩
  ·rcases ad.ad.live aL c5 qg with ⟨aF,iZ⟩|⟨b',cF,iu,g1,g2,g3,g4,g5,g6,g7⟩
   ·exact .inl ⟨aF,by simpa [Cells.xU] using iZ⟩
   ·right;simp only [Cells.xU,Cells.E5];refine ⟨b',cF,iu,g1,g2.forget I ri,g3,g4,g5,g6,fun i j aa ae=> ?_⟩;obtain ⟨v,aD,aE,bM⟩:=g7 i j aa ae;exact ⟨v,aD,by rw [Cells.E4 h c5.c i j ae];exact ri aE,bM⟩
 ·intro U ab o1 o2 b' s1 gl s2 fY g1 g2 aD aE;have t1: ∃o,H[U]? =some (some o):=by
   rcases cS U o1 g1 with ⟨rfl,_⟩|⟨_,c5,g,_⟩
   ·exact ⟨_,aU⟩
   ·exact ⟨_,g⟩
  have t2: ∃o,H[ab]? =some (some o):=by
   rcases cS ab o2 g2 with ⟨rfl,_⟩|⟨_,c5,g,_⟩
   ·exact ⟨_,aU⟩
   ·exact ⟨_,g⟩
  obtain ⟨_,t1⟩:=t1;obtain ⟨_,t2⟩:=t2;exact ad.ad.hi U ab _ _ b' s1 gl s2 fY t1 t2 aD aE
 ·intro aL o' b' cl cF aj eg;rcases cS aL o' aj with ⟨rfl,_⟩|⟨_,c5,qg,_⟩
  ·rw [bG] at eg;cases eg
  ·exact ad.bh.own aL c5 b' cl cF qg eg
 ·rw [Dv] at au;cases aB:look t fr with
  |none=>simp [aB] at au
  |some v0=>
   simp [aB] at au;subst au;exact ⟨(ad.e8 t v0 aB).1,ri (ad.e8 t v0 aB).2⟩
section
variable {P:Program}{fn:Func}{c:Ctx}{fr:Fr}{H:aX}{k:List eh}
theorem dt {all:Array Oper}{d:Nat}{t e:TypeId}{x y:Operand}{ty:TypeId}{pos:String}{after:Array Edge}{rest:List Oper}{inf:TypeInfo}{z:Value}{h n:Nat}{o:bk}{v:al}{ea c':Cells}{i m:Nat}(bs:P.underlying t=some (.slice e))(aa:P.info? e=some inf)(bw:inf.zero=some z)(u3:inf.size=o.c.aC)(nR:z.cells.size=o.c.aC)(eE:Nat.blt 0 o.c.aC=true)(ar:bA fr x=some (.aA h 0 n))(aU:H[h]? =some (some o))(aab:o.ty=e)(aF:o.c.len=n)(aY:bA fr y=some v)(ax:BN H v=some (ea,i,m))(dO:i+m≤ea.len)(YS:o.c.app ea i m=some c')(ak:(n+m)*inf.bytes≤140737488355328∧n+m≤9223372036854775807)(tm: ∀i j,i<c'.len→j<c'.aC→(c'.at i j).forget h=c'.at i j)(bK: ¬c.fix h)(ao:ai P fn c (.ops false all rest k) ((d,.aA h 0 (n+m))::np h fr) ((cQ h H).set h (some ⟨e,c'⟩))):ai P fn c (.ops false all (⟨some d,.call {callee:= .builtin .append,args:= #[x,y],argTypes:= #[t,t]},ty,pos,after,none⟩::rest) k) fr H:=by
 refine uG (fun w a σ S ad=> ?_) ao;subst aab;obtain ⟨cY,eT,lz,l0,C8⟩:=Cells.Wn YS dO;have FP:0<o.c.aC:=ir eE;have U:=ad.dN ar;have ab:=ad.dN aY;have tn:=ad.src ab ax (fun _ _=>dO);have lT: ∀r w',(Builtin.append_ #[t,t] ty #[a.eval x,a.eval y]).run P w= .ok r w'→(execOp a.eval ⟨some d,.call {callee:= .builtin .append,args:= #[x,y],argTypes:= #[t,t]},ty,pos,after,none⟩).run P w= .ok (.value r) w':=by intro r w' h;simp [execOp,resolve,invoke,builtin,h]
 generalize F6:a.eval x=Rf at U lT;generalize lY:a.eval y=Rg at ab tn lT;unfold Src at tn;rw [eT] at tn
 --what the old cells and the new ones give
 cases U with
 |aA _ _ _ _ b s C cap bG hlen jE=>
  subst aF;obtain ⟨gA,cur,g1,g2,g3,g4,g5,g6⟩:=ad.obj aU bG;subst gA;have Za:cap=C:=J;subst Za;obtain ⟨mk,g1,nN,g3⟩:=g1.cells J;have holds: ∀aI j,aI<o.c.len→j<o.c.aC→ ∃u,(cur.toList.take (o.c.len*o.c.aC))[aI*o.c.aC+j]? =some u∧bp w S σ (c'.at aI j) u∧u.oneCell'=true:=by
   intro aI j aP ae;obtain ⟨u,aD,aE,bM⟩:=g6 aI j aP ae;have bC:aI*o.c.aC+j<o.c.len*o.c.aC:=by have:(aI+1)*o.c.aC≤o.c.len*o.c.aC:=fo _ J;rw [ef] at this;omega
   refine ⟨u,?_,by rw [l0 aI j aP ae];exact aE,bM⟩;rw [pj,aG bC];simpa using aD
  have alF:o.c.len*o.c.aC≤cur.size:=by rw [g2];exact fo _ hlen
  rcases tn with ⟨rfl,mh,qa,rfl⟩|⟨iV,qa,news,rfl,bO,bW,dq,dZ⟩
  ·--nothing appended
   have ez:(Builtin.append_ #[t,t] ty #[.slice (some ⟨b,0*o.c.aC,none⟩) o.c.len cap,.slice mh 0 qa]).run P w= .ok (.slice (some ⟨b,0*o.c.aC,none⟩) o.c.len cap) w:=by cases mh<;>simp [Builtin.append_,run_underlying bs,sizeOf,typeInfo,aa,Builtin.lenOf,hlen,Builtin.firstCells,loadCells,loadCellsFrom,storeCells]
   refine ⟨_,w,_,S,lT _ _ ez,ad.KS (C:=cap) (cur:=cur) aU I I I (bR _) cY (fun _ _ _=>rfl) g1 (by rw [cY];exact g2) g3 J (.inr bG) (.inr bG) (fun aI j aP ae=> ?_) tm nN,?_⟩
   ·rw [lz] at aP;rw [cY] at ae⊢;obtain ⟨u,aD,aE,bM⟩:=g6 aI j J ae;exact ⟨u,aD,by rw [l0 aI j J ae];exact aE,bM⟩
   ·rw [←cY];exact .aA _ _ _ _ _ _ cap _ (by simp [cN]) J J
  ·by_cases CR:o.c.len+m≤cap
   ·have th:o.c.len*o.c.aC+news.length≤cur.size:=by rw [bO,g2,←ef];exact fo _ CR
    have ez:=agh (P:=P) w t ty o.ty inf bs aa b o.c.len cap cur g1 nN iV m qa news (by rw [u3];exact bO) bW dq CR (by rw [u3];exact th);rw [u3] at ez;have cv:(cur.toList.take (o.c.len*o.c.aC)).length=o.c.len*o.c.aC:=by simp;omega
    refine ⟨_,_,_,S,lT _ _ (by simpa using ez),ad.KS (w':=w.setRow b (cur.toList.take (o.c.len*o.c.aC)++news++cur.toList.drop (o.c.len*o.c.aC+news.length)).toArray) (c':=c') (C:=cap) aU I I I bZ cY (fun b' _ eg=>setRow_other w b b' _ eg) (setRow_heap w b cur _ _ _ g1) ?_ g3 J (.inr bG) (.inr bG) (fun aI j aP ae=> ?_) tm ?_,?_⟩
    ·rw [cY,←g2];simp;omega
    ·rw [lz] at aP;rw [cY] at ae⊢;by_cases ya:aI<o.c.len
     ·obtain ⟨u,aD,aE,bM⟩:=holds aI j ya ae;refine ⟨u,?_,aE,bM⟩;have bC:aI*o.c.aC+j<o.c.len*o.c.aC:=by have:(aI+1)*o.c.aC≤o.c.len*o.c.aC:=fo _ J;rw [ef] at this;omega
      simp only [zn,ll];rw [hQ J];exact aD
     ·obtain ⟨u,aD,aE⟩:=dZ (aI-o.c.len) j J ae;refine ⟨u,?_,?_,dq u (oA aD)⟩
      ·have tj:aI*o.c.aC+j=o.c.len*o.c.aC+((aI-o.c.len)*o.c.aC+j):=by rw [←kC,←ef];congr 2;omega
       have bC:(aI-o.c.len)*o.c.aC+j<news.length:=(gL.1 aD).1;simp only [zn,ll];rw [tj,jA J,cv,xA,hQ bC];exact aD
      ·have:=C8 (aI-o.c.len) j J ae;rw [show o.c.len+(aI-o.c.len)=aI by omega] at this;rw [this];exact aE
    ·have cq:(cur.toList.take (o.c.len*o.c.aC)++news++cur.toList.drop (o.c.len*o.c.aC+news.length)).toArray.size=cur.size:=by simp;omega
     rw [cq];exact nN
    ·have:=bp.aA (w:=w.setRow b (cur.toList.take (o.c.len*o.c.aC)++news++cur.toList.drop (o.c.len*o.c.aC+news.length)).toArray) (S:=S) (cN σ h (.at b c'.aC cap)) h 0 (o.c.len+m) b c'.aC cap cap (by simp [cN]) CR J;simpa using this
   ·have u9:(cur.toList.take (o.c.len*o.c.aC)).length=o.c.len*inf.size:=by rw [u3];simp;omega
    have ez:=run_append_grow (P:=P) w t ty o.ty inf z bs aa bw ⟨b,0,none⟩ o.c.len cap (cur.toList.take (o.c.len*o.c.aC)) u9 (fun j u hu=> ?_) iV m qa news (by rw [u3];exact bO) bW J J (growslice_fits J ak.1)
    rotate_left
    ·rw [pj] at hu;split at hu
     ·simp [World.cell?,Addr.add_lit,g1];simpa using hu
     ·cases hu
    have oL:=grownCap_ge w (o.c.len+m) cap o.ty;have hle:=grownCap_le_maxLen w (o.c.len+m) cap o.ty (by unfold maxLen;omega);generalize grownCap w (o.c.len+m) cap o.ty=G at ez oL hle;generalize alN:cur.toList.take (o.c.len*o.c.aC)=xs at ez holds u9;rw [u3] at u9;refine ⟨_,w.drew.alloc (.cells (xs.toArray++news.toArray++Builtin.zeroCells z.cells (G-(o.c.len+m))) o.ty),_,S,lT _ _ (by rw [s0];exact ez),b6.Qg (w:=w) (c':=c') (C:=G) (b:=w.heap.size) (cur:=xs.toArray++news.toArray++Builtin.zeroCells z.cells (G-(o.c.len+m))) ad aU I I I bZ cY (fun b' eg _=>Below.heap_alloc w.drew (.cells (xs.toArray++news.toArray++Builtin.zeroCells z.cells (G-(o.c.len+m))) o.ty) b' eg) (heap_alloc_new w.drew _) ?_ hle J (.inl (bR _)) (.inl bK) (fun aI j aP ae=> ?_) tm,?_⟩
    ·simp only [Array.size_append,List.size_toArray,size_zeroCells,u9,bO,nR,cY,←ef];congr 1;omega
    ·rw [lz] at aP;rw [cY] at ae⊢;by_cases ya:aI<o.c.len
     ·obtain ⟨u,aD,aE,bM⟩:=holds aI j ya ae;refine ⟨u,?_,aE,bM⟩;have bC:=(gL.1 aD).1;rw [Array.append_assoc,EI (by simpa using bC)];simpa using aD
     ·obtain ⟨u,aD,aE⟩:=dZ (aI-o.c.len) j J ae;refine ⟨u,?_,?_,dq u (oA aD)⟩
      ·have tj:aI*o.c.aC+j=o.c.len*o.c.aC+((aI-o.c.len)*o.c.aC+j):=by rw [←kC,←ef];congr 2;omega
       have bC:(aI-o.c.len)*o.c.aC+j<news.length:=(gL.1 aD).1;rw [Array.append_assoc,tj,Array.getElem?_append_right (by simp [u9]),EI (by simp [u9];exact bC)];simp [u9];exact aD
      ·have:=C8 (aI-o.c.len) j J ae;rw [show o.c.len+(aI-o.c.len)=aI by omega] at this;rw [this];exact aE
    ·have:=bp.aA (w:=w.drew.alloc (.cells (xs.toArray++news.toArray++Builtin.zeroCells z.cells (G-(o.c.len+m))) o.ty)) (S:=S) (cN σ h (.at w.heap.size c'.aC G)) h 0 (o.c.len+m) w.heap.size c'.aC G G (by simp [cN]) oL J;simpa using this
 |hW _ _ bG=>
  have iZ:o.c.len=0:=aF;rcases tn with ⟨rfl,mh,qa,rfl⟩|⟨iV,qa,news,rfl,bO,bW,dq,dZ⟩
  ·have ez:(Builtin.append_ #[t,t] ty #[.slice none 0 0,.slice mh 0 qa]).run P w= .ok (.slice none 0 0) w:=by cases mh<;>simp [Builtin.append_,run_underlying bs,sizeOf,typeInfo,aa,Builtin.lenOf,Builtin.firstCells,loadCells,loadCellsFrom]
   refine ⟨_,w,σ,S,lT _ _ ez,ad.k8 aU bG cY J,?_⟩;exact .hW _ _ bG
  ·by_cases hm:m=0
   ·subst hm;have ez:(Builtin.append_ #[t,t] ty #[.slice none 0 0,.slice (some iV) 0 qa]).run P w= .ok (.slice none 0 0) w:=by simp [Builtin.append_,run_underlying bs,sizeOf,typeInfo,aa,Builtin.lenOf,Builtin.firstCells,loadCells,loadCellsFrom]
    refine ⟨_,w,σ,S,lT _ _ ez,ad.k8 aU bG cY J,?_⟩;exact .hW _ _ bG
   ·have ez:=run_append_nil (P:=P) w t ty o.ty inf z bs aa bw iV m qa news (by rw [u3];exact bO) bW J J (by
     have sk:=ak.1;rw [c1] at sk;omega)
    have oL:=grownCap_ge w m 0 o.ty;have hle:=grownCap_le_maxLen w m 0 o.ty (by unfold maxLen;omega);generalize grownCap w m 0 o.ty=G at ez oL hle;refine ⟨_,w.drew.alloc (.cells (news.toArray++Builtin.zeroCells z.cells (G-m)) o.ty),_,S,lT _ _ ez,b6.Qg (w:=w) (c':=c') (C:=G) (b:=w.heap.size) (cur:=news.toArray++Builtin.zeroCells z.cells (G-m)) ad aU I I I bZ cY (fun b' eg _=>Below.heap_alloc w.drew (.cells (news.toArray++Builtin.zeroCells z.cells (G-m)) o.ty) b' eg) (heap_alloc_new w.drew _) ?_ hle J (.inl (bR _)) (.inl bK) (fun aI j aP ae=> ?_) tm,?_⟩
    ·simp only [Array.size_append,List.size_toArray,size_zeroCells,bO,nR,cY,←ef];congr 1;omega
    ·rw [lz] at aP;rw [cY] at ae⊢;obtain ⟨u,aD,aE⟩:=dZ aI j J ae;refine ⟨u,?_,?_,dq u (oA aD)⟩
     ·have bC:=(gL.1 aD).1;rw [EI (by simpa using bC)];simpa using aD
     ·have:=C8 aI j J ae;rw [show o.c.len+aI=aI by omega] at this;rw [this];exact aE
    ·have:=bp.aA (w:=w.drew.alloc (.cells (news.toArray++Builtin.zeroCells z.cells (G-m)) o.ty)) (S:=S) (cN σ h (.at w.heap.size c'.aC G)) h 0 m w.heap.size c'.aC G G (by simp [cN]) oL J;simpa [iZ] using this
end
end Go.ai
namespace Go.ai
variable [bq]
open Go.RowKit
def qK (σ:Nat→Option bQ)(H:aX)(b:Nat):Prop:= ∃h o s C,H[h]? =some (some o)∧σ h=some (.at b s C)
def o7 (w:World)(S:Nat→Prop)(σ:Nat→Option bQ)(H:aX):Prop:= ∀(w':World) (bY:Nat→Prop),(∀b,S b→bY b)→w.heap.size≤w'.heap.size→(∀b,b<w.heap.size→ ¬qK σ H b→w'.heap[b]? =w.heap[b]?)→bq.G w' bY
theorem o7.less {w:World}{S e4:Nat→Prop}{σ sX:Nat→Option bQ}{H NJ:aX}(h:o7 w S σ H)(dp: ∀b,S b→e4 b)(aj: ∀b,qK sX NJ b→qK σ H b):o7 w e4 sX NJ:=
 fun w' bY U ab aw=>h w' bY (fun b ak=>U b (dp b ak)) ab (fun b ak aF=>aw b ak (fun q=>aF (aj b q)))
theorem o7.now {w:World}{S:Nat→Prop}{σ:Nat→Option bQ}{H:aX}(h:o7 w S σ H):bq.G w S:=h w S (fun _ h=>h) (bR _) (fun _ _ _=>rfl)
def nv (w:World)(S:Nat→Prop)(σ:Nat→Option bQ)(H:aX)(fix:Nat→Prop)(R:al→aX→Prop)(aJ:o7 w S σ H):Ctx:=⟨w,S,qK σ H,σ,fix,R,aJ⟩
theorem qK.nil {σ:Nat→Option bQ}{H:aX}{b:Nat}(h:qK (fun _=>none) [] b):qK σ H b:=by have bT:= ‹bq›;obtain ⟨h,o,s,C,U,_⟩:=h;simp at U
def om (w:World)(S:Nat→Prop)(σ:Nat→Option bQ)(args:List al)(ds:Array Value):Prop:=
 ds.size=args.length∧ ∀i,i<args.length→bp w S σ (args.getD i .any) (ds.getD i undef)
def cg (P:Program)(f:FuncId)(args:List al)(H:aX)(fix:Nat→Prop)(K:al→aX→Prop):Prop:=
 (∃fn,P.funcs[f]? =some fn∧(fn.name== "runtime.NumGoroutine")=false∧fn.body.isNone=false)∧
 ∀w σ S ds (aJ:o7 w S σ H),kX w S σ H→(∀h,fix h→h<H.length)→om w S σ args ds→
  Calls P f ds w (fun e w'=> ∃v r bu bY bE,e= .returned v∧kX w' bY bu bE∧bp w' bY bu r v∧vP (nv w S σ H fix K aJ) w' bY bu bE∧K r bE)
section
variable {P:Program}{fn:Func}{c:Ctx}{fr:Fr}{H:aX}{k:List eh}
theorem ahN {w:World}{a:Act}{σ:Nat→Option bQ}{S:Nat→Prop}{n:Nat}(ad:b6 c w a σ S n fr H){r:ResultVar}{v:al}(h:Eu P fr H r=some v):
 ∃x,((match r with
  | .tmp t=>pure (a.tmps.getD t undef)
  | .cell iV t=>do loadVar t (←asAddr (a.tmps.getD iV undef)):Sem Value)).run P w= .ok x w∧bp w S σ v x:=by
 cases r with
 |tmp t=>exact ⟨_,rfl,(ad.e8 t v h).2⟩
 |cell t ty=>
  simp only [Eu] at h;cases U:look t fr with
  |none=>simp [U] at h
  |some p=>
   cases p<;>try (simp [U] at h;done)
   rename_i bc i j;cases i with
   |succ _=>simp [U] at h
   |zero=>cases j with
    |succ _=>simp [U] at h
    |zero=>
     simp only [U] at h;cases ab:H[bc]? with
     |none=>simp [ab] at h
     |some k9=>cases k9 with
      |none=>simp [ab] at h
      |some o=>
       simp only [ab] at h;obtain ⟨nU,acq⟩:=o;cases acq<;>try (simp at h;done)
       rename_i l;simp only at h;have aw:=(ad.e8 t _ U).2;generalize bw:a.tmps.getD t undef=z at aw;cases aw with
       |ptr _ _ _ _ b s C bG=>
        obtain ⟨ax,cur,g1,g2,g3,g4,g5,g6⟩:=ad.obj ab bG;simp only [Cells.aC] at ax g2 g6;simp only [Cells.len] at g4 g6;have mU: ∀j,j<l.length→ ∃x,w.cell? ⟨b,j,none⟩=some x∧bp w S σ (l.getD j .any) x∧x.oneCell'=true:=by intro j ae;obtain ⟨mk,g1,_,_⟩:=g1.cells (by show l.length≠0;omega);obtain ⟨x,aD,aE,bM⟩:=g6 0 j J ae;refine ⟨x,?_,aE,bM⟩;simp only [s0,c1] at aD;simp [World.cell?,g1,aD]
        have O2: ∀inf:TypeInfo,P.info? ty=some inf→Nat.beq inf.size l.length=true→iP (P.underlying ty|>.getD .string)=true→(P.underlying ty).isSome=true→
         ∃x,(loadVar ty ⟨b,0,none⟩).run P w= .ok x w∧bp w S σ (.agg l) x:=by
         intro inf ib cq Fj aas;obtain ⟨u,hu⟩:=Option.isSome_iff_exists.1 aas;have pG:=ot cq
         let cs:List Value:=(List.range l.length).map (fun j=>(w.cell? ⟨b,j,none⟩).getD undef)
         have au:=run_loadCells_list (P:=P) w ⟨b,0,none⟩ cs (fun j v ah=>by
          have ae:j<l.length:=by simpa [cs] using (gL.1 ah).1
          obtain ⟨x,aD,_,_⟩:=mU j ae;simp only [cs,me,uw ae,rW,dy] at ah;subst ah;simp [Addr.add_lit,aD])
         have gZ:cs.length=inf.size:=by simp [cs,pG]
         refine ⟨.agg cs.toArray,?_,.agg _ _ _ (by simp [cs]) (fun j ae=> ?_) (fun j ae=> ?_)⟩
         ·have Kv:iP u=true:=by rw [hu] at Fj;exact Fj
          rw [gZ] at au;simp [loadVar,wZ hu,Kv,sizeOf,typeInfo,ib,au]
         ·obtain ⟨x,aD,aE,_⟩:=mU j ae;simpa [cs,Array.getD,ae,aD] using aE
         ·obtain ⟨x,aD,_,bM⟩:=mU j ae;simpa [cs,Array.getD,ae,aD] using bM
        have Ah: ∀u,P.underlying ty=some u→iP u=false→Nat.beq 1 l.length=true→l[0]? =some v→ ∃x,(loadVar ty ⟨b,0,none⟩).run P w= .ok x w∧bp w S σ v x:=by
         intro u hu Fj cq ah;have pG:=ot cq;obtain ⟨x,aD,aE,_⟩:=mU 0 J;have:l.getD 0 .any=v:=by simp [List.getD,ah]
         rw [this] at aE;exact ⟨x,by simp [loadVar,wZ hu,Fj,load,Sem.run,aD],aE⟩
        have fin:(∃x,(loadVar ty ⟨b,0,none⟩).run P w= .ok x w∧bp w S σ v x)→ ∃x,(do loadVar ty (←asAddr (.pointer (some ⟨b,0*s+0,none⟩))):Sem Value).run P w= .ok x w∧bp w S σ v x:=by rintro ⟨x,aD,aE⟩;exact ⟨x,by simp [asAddr,aD],aE⟩
        show∃x,(do loadVar ty (←asAddr (a.tmps.getD t undef)):Sem Value).run P w= .ok x w∧bp w S σ v x;rw [bw];apply fin;cases hu:P.underlying ty with
        |none=>simp [hu] at h
        |some u=>
         cases ib:P.info? ty with
         |none=>
          cases u<;>simp only [hu,ib] at h<;>try (cases h;done)
          all_goals
           cases ak:Nat.beq 1 l.length with
           |false=>simp [ak] at h
           |true=>simp only [ak,kZ] at h;exact Ah _ hu rfl ak h
         |some inf=>
          cases u<;>simp only [hu,ib] at h
          case struct=>
           cases ak:Nat.beq inf.size l.length with
           |false=>simp [ak] at h
           |true=>simp only [ak,kZ,dy] at h;subst h;exact O2 inf ib ak (by simp [hu,iP]) (by simp [hu])
          case array=>
           cases ak:Nat.beq inf.size l.length with
           |false=>simp [ak] at h
           |true=>simp only [ak,kZ,dy] at h;subst h;exact O2 inf ib ak (by simp [hu,iP]) (by simp [hu])
          all_goals
           cases ak:Nat.beq 1 l.length with
           |false=>simp [ak] at h
           |true=>simp only [ak,kZ] at h;exact Ah _ hu rfl ak h
theorem ahb {w:World}{a:Act}{σ:Nat→Option bQ}{S:Nat→Prop}{n:Nat}(ad:b6 c w a σ S n fr H){vs:List al}(h:sO P fr H fn.results.toList=some vs):
 ∃x,(results fn a.tmps).run P w= .ok x w∧bp w S σ (gK vs) x:=by
 have key: ∀(rs:List ResultVar) (vs:List al),sO P fr H rs=some vs→ ∃xs:List Value,(rs.mapM (fun (r:ResultVar)=>((match r with
  | .tmp t=>pure (a.tmps.getD t undef)
  | .cell iV t=>do loadVar t (←asAddr (a.tmps.getD iV undef))):Sem Value))).run P w= .ok xs w∧xs.length=vs.length∧ ∀i,i<vs.length→bp w S σ (vs.getD i .any) (xs.getD i undef):=by
  intro rs;induction rs with
  |nil=>intro vs h;simp [sO] at h;subst h;exact ⟨[],bZ,rfl,fun i aa=>by simp at aa⟩
  |cons r rs a8=>
   intro vs h;simp only [sO] at h;cases U:Eu P fr H r with
   |none=>simp [U] at h
   |some v=>
    cases ab:sO P fr H rs with
    |none=>simp [U,ab] at h
    |some Ld=>
     simp [U,ab] at h;subst h;obtain ⟨x,aD,aE⟩:=ahN ad U;obtain ⟨xs,i1,i2,i3⟩:=a8 Ld ab;refine ⟨x::xs,?_,by simp [i2],fun i aa=> ?_⟩
     ·rw [List.mapM_cons,Sem.run_bind,aD];simp only [Result.andThen_ok,Sem.run_bind,i1,Sem.run_pure]
     ·cases i with
      |zero=>exact aE
      |succ i=>simpa using i3 i (by simpa using aa)
 obtain ⟨xs,aD,aE,bM⟩:=key _ _ h;refine ⟨if h:xs.toArray.size=1 then xs.toArray[0] else .tuple xs.toArray,?_,?_⟩
 ·unfold results;rw [Array.mapM_eq_mapM_toList];simp only [Sem.run_bind,Sem.run_map];have abn: ∀r:Result (List Value),r= .ok xs w→((r.andThen fun a w'=>Result.ok a.toArray w').andThen fun (a:Array Value) w'=>Sem.run P (pure (if h:a.size=1 then a[0] else Value.tuple a)) w')=Result.ok (if h:xs.toArray.size=1 then xs.toArray[0] else Value.tuple xs.toArray) w:=by rintro _ rfl;rfl
  exact abn _ aD
 ·match vs,xs,aE with
  |[v],[x],_=>exact bM 0 bZ
  |[],[],_=>exact .cd _ _ _ rfl (fun i aa=>by simp at aa)
  |v1::v2::r,hA::ih::q,aE=>
   have: ¬(hA::ih::q).toArray.size=1:=bZ;rw [dif_neg this];refine .cd _ _ _ (by simpa using aE) (fun i aa=> ?_);have:=bM i aa;have bC:i<(hA::ih::q).length:=by rw [aE];exact aa
   have e:(hA::ih::q).toArray.getD i undef=(hA::ih::q).getD i undef:=by simp only [Array.getD,List.size_toArray,bC,uv,List.getD,mL bC,oy];rfl
   rw [e];exact this
def y7:Nat→List al→Fr
 |_,[]=>[]
 |i,v::r=>(i,v)::y7 (i+1) r
theorem ahr (args:List al): ∀i t v,look t (y7 i args)=some v→i≤t∧t<i+args.length∧args.getD (t-i) .any=v:=by
 have bT:= ‹bq›;induction args with
 |nil=>intro i t v h;simp [y7,look] at h
 |cons x r a8=>
  intro i t v h;simp only [y7,look] at h;by_cases he:t=i
  ·subst he;simp at h;subst h;exact ⟨bR _,bZ,bZ⟩
  ·simp only [db he,nA] at h;obtain ⟨U,ab,aw⟩:=a8 (i+1) t v h;refine ⟨J,by simp;omega,?_⟩;rw [show t-i=(t-(i+1))+1 by omega];simpa using aw
theorem hq {f:FuncId}{code:Code}{args:List al}{fix:Nat→Prop}{R:al→aX→Prop}(aN:P.funcs[f]? =some fn)(ak:fn.body=some code)(aF:(fn.name== "runtime.NumGoroutine")=false)(cq:Nat.ble args.length fn.ntmps=true)(h: ∀c:Ctx,c.R=R→c.fix=fix→ai P fn c (.code code []) (y7 0 args) H):cg P f args H fix R:=by
 refine ⟨⟨fn,aN,aF,by rw [ak];rfl⟩,fun w σ S ds Ke sn ha ah=> ?_⟩;refine calls_of_wp aN ak ?_;have aau:args.length≤fn.ntmps:=ir cq;have jI:b6 (nv w S σ H fix R Ke) w {tmps:=ds++Array.replicate (fn.ntmps-ds.size) undef,defers:=[]} σ S fn.ntmps (y7 0 args) H:=by
  refine ⟨sn,⟨I,I,I,bR _,fun _ _ _=>rfl,fun _ h=>h,fun _ h=> .inl h,fun _ _=>rfl,ha,fun h o b s C U ab=> .inl ⟨h,o,s,C,U,ab⟩⟩,I,by simp [ah.1];omega,fun t v au=> ?_⟩;obtain ⟨_,ab,aw⟩:=ahr args 0 t v au;simp only [c1,vS] at ab aw;refine ⟨J,?_⟩;have:=ah.2 t ab;rw [aw] at this;have bC:t<ds.size:=by rw [ah.1];exact ab
  have e:(ds++Array.replicate (fn.ntmps-ds.size) undef).getD t undef=ds.getD t undef:=by simp [BZ,bC]
  rw [e];exact this
 refine wp_mono (h (nv w S σ H fix R Ke) I I w _ σ S jI) ?_;rintro e mc w' ⟨bu,bY,hT,bE,fA,aJ⟩;obtain ⟨he,vs,CX,ay⟩:=aJ;obtain ⟨x,ar,aaH⟩:=ahb fA CX;have fin:mc.defers=[]∧ ∃v,(results fn mc.tmps).run P w'= .ok v w'∧ ∃Rb r NG ID Iz,Ending.returned v= .returned Rb∧kX w' ID NG Iz∧bp w' ID NG r Rb∧vP (nv w S σ H fix R Ke) w' ID NG Iz∧R r Iz:=
  ⟨fA.defers,x,ar,x,gK vs,bu,bY,bE,rfl,fA.ad,aaH,fA.bh,ay⟩
 rcases he with rfl|rfl
 ·exact fin
 ·exact fin
def kD (fr:Fr):List Operand→Option (List al)
 |[]=>some []
 |x::r=>match bA fr x with
  |some v=>match kD fr r with
   |some l=>some (v::l)
   |none=>none
  |none=>none
theorem DW {w:World}{a:Act}{σ:Nat→Option bQ}{S:Nat→Prop}{n:Nat}(ad:b6 c w a σ S n fr H): ∀(xs:List Operand) (l:List al),kD fr xs=some l→xs.length=l.length∧ ∀i,i<l.length→bp w S σ (l.getD i .any) ((xs.map a.eval).getD i undef)
 |[],l,h=>by simp [kD] at h;subst h;exact ⟨rfl,fun i aa=>by simp at aa⟩
 |x::r,l,h=>by
  simp only [kD] at h;cases U:bA fr x with
  |none=>simp [U] at h
  |some v=>
   cases ab:kD fr r with
   |none=>simp [U,ab] at h
   |some fV=>
    simp [U,ab] at h;subst h;obtain ⟨i1,i2⟩:=DW ad r fV ab;refine ⟨by simp [i1],fun i aa=> ?_⟩;cases i with
    |zero=>exact ad.dN U
    |succ i=>simpa using i2 i (by simpa using aa)
theorem b6.called {w w':World}{a:Act}{σ bu:Nat→Option bQ}{S bY:Nat→Prop}{n:Nat}{bE:aX}{fix:Nat→Prop}{K:al→aX→Prop}(ad:b6 c w a σ S n fr H)(gP: ∀h,h<H.length→fix h)(sn:kX w' bY bu bE){aJ:o7 w S σ H}(jn:vP (nv w S σ H fix K aJ) w' bY bu bE):
 b6 c w' a bu bY n fr bE:=by
 have bG: ∀h B,σ h=some B→bu h=some B:=by
  intro h B cZ;have bC:h<H.length:=by
   rcases ga h H.length with au|au
   ·exact au
   ·rw [ad.ad.hG h au] at cZ;cases cZ
  have:=jn.fixed h (gP h bC);rw [this];exact cZ
 have Ji: ∀b,S b→ ¬qK σ H b:=by rintro b ax ⟨h,o,s,C,U,ab⟩;exact (ad.obj U ab).2.choose_spec.2.2.2.2.1 ax
 have dp: ∀b,S b→w'.heap[b]? =w.heap[b]? :=fun b ax=>jn.block b (ad.ad.small b ax) (Ji b ax);refine ⟨sn,?_,ad.defers,ad.size,fun t v au=>⟨(ad.e8 t v au).1,(ad.e8 t v au).2.mono jn.hD dp _ bG⟩⟩;refine ⟨jn.os.trans ad.bh.os,jn.output.trans ad.bh.output,jn.tape.trans ad.bh.tape,dT ad.bh.size jn.size,fun b ak aj=> ?_,fun b ak=>jn.hD b (ad.bh.hD b ak),fun b ak=> ?_,fun h aN=> ?_,fun h aN=>jn.iY h (gP h (ad.bh.iY h aN)),fun h o b s C U ab=> ?_⟩
 ·rw [←ad.bh.block b ak aj];have qh:=ad.bh.size;refine jn.block b (by simp only [nv];omega) ?_;rintro ⟨h,o,s,C,U,ab⟩;rcases ad.bh.own h o b s C U ab with aw|aw
  ·exact aj aw
  ·omega
 ·rcases jn.e4 b ak with U|U|U
  ·exact ad.bh.e4 b U
  ·obtain ⟨h,o,s,C,g1,g2⟩:=U;rcases ad.bh.own h o b s C g1 g2 with g3|g3
   ·exact .inr (.inl g3)
   ·exact .inr (.inr g3)
  ·right;right;have:=ad.bh.size;simp only [nv] at U;omega
 ·rw [jn.fixed h (gP h (ad.bh.iY h aN))];exact ad.bh.fixed h aN
 ·rcases jn.own h o b s C U ab with ⟨aL,o',cl,cF,g1,g2⟩|aw
  ·exact ad.bh.own aL o' b cl cF g1 g2
  ·right;have:=ad.bh.size;simp only [nv] at aw;omega
theorem b6.Qz {w:World}{a:Act}{σ:Nat→Option bQ}{S:Nat→Prop}{n:Nat}(ad:b6 c w a σ S n fr H):o7 w S σ H:=by
 intro w' bY U ab aw;refine c.acV w' bY (fun b ak=>U b (ad.bh.hD b ak)) (dT ad.bh.size ab) (fun b ak aj=> ?_);have ax:=ad.bh.size;rw [aw b J ?_,ad.bh.block b ak aj];rintro ⟨h,o,s,C,g1,g2⟩;rcases ad.bh.own h o b s C g1 g2 with g|g
 ·exact aj g
 ·omega
theorem Bp {all:Array Oper}{d:Option Nat}{g:Operand}{args:List Operand}{h6:Array TypeId}{ty:TypeId}{pos:String}{after:Array Edge}{rest:List Oper}{f:FuncId}{cB dM gG:List al}{fix:Nat→Prop}{K:al→aX→Prop}(cX:bA fr g=some (.fn f cB))(a1:kD fr args=some dM)(has:dM++cB=gG)(k2:cg P f gG H fix K)(gP: ∀h,h<H.length→fix h)(ha: ∀h,fix h→h<H.length)(ao: ∀r bE,K r bE→ai P fn c (.ops false all rest k) (match d with|some d=>(d,r)::fr|none=>fr) bE):ai P fn c (.ops false all (⟨d,.call {callee:= .value g,args:=args.toArray,argTypes:=h6},ty,pos,after,none⟩::rest) k) fr H:=by
 intro hd w a σ S ad;obtain ⟨iK,jF⟩:=sI hd;obtain ⟨⟨Yb,zY,JP,Fw⟩,av⟩:=k2;subst has;have U:=ad.dN cX;obtain ⟨aD,aE⟩:=DW ad args dM a1;generalize bw:a.eval g=z at U;refine wpList_step (fun gm Je=> ?_);simp only [Region.wanted,fS];unfold Oper.wp;cases U with
 |fn _ _ _ vs au ah=>
  have ez:(execOp a.eval ⟨d,.call {callee:= .value g,args:=args.toArray,argTypes:=h6},ty,pos,after,none⟩).run P w= .ok (.enter f ((args.map a.eval).toArray++vs)) w:=by simp only [execOp,resolve,bw,Deferred.ofValue,Sem.run_bind,Sem.run_pure,Result.andThen_ok,invoke,callFunc,List.map_toArray,Array.empty_append,program,Sem.run,zY];simp [JP,Fw]
  rw [ez];have Fk:om w S σ (dM++cB) ((args.map a.eval).toArray++vs):=by
   refine ⟨by simp [aD,au],fun i aa=> ?_⟩;simp only [c2] at aa;by_cases bC:i<dM.length
   ·have:=aE i bC;have wm:i<args.length:=J;have sc:(dM++cB).getD i .any=dM.getD i .any:=by simp [List.getD,oz,bC]
    have nI:((args.map a.eval).toArray++vs).getD i undef=(args.map a.eval).getD i undef:=by simp [BZ,wm,List.getD]
    rw [sc,nI];exact this
   ·have:=ah (i-dM.length) J;have jo: ¬i<args.length:=J;have sc:(dM++cB).getD i .any=cB.getD (i-dM.length) .any:=by simp [List.getD,oz,bC]
    have nI:((args.map a.eval).toArray++vs).getD i undef=vs.getD (i-dM.length) undef:=by simp [BZ,aD,bC]
    rw [sc,nI];exact this
  refine Calls.mono (av w σ S _ ad.Qz ad.ad ha Fk) ?_;rintro e w' ⟨v,r,bu,bY,bE,rfl,g1,g2,g3,g4⟩;have jI:=ad.called gP g1 g3;refine Je _ _ ?_;cases d with
  |none=>exact ao r bE g4 jF w' _ bu bY jI
  |some d=>exact ao r bE g4 jF w' _ bu bY (jI.put g2 (iK d rfl))
end
end Go.ai
namespace Go.ai
variable [bq]
open Go.RowKit
def bD (P:Program)(f:FuncId)(args:List al)(r:al):Prop:= ∀H,cg P f args H (fun h=>h<H.length) (fun dk bE=>dk=r∧bE=H)
theorem om.closed {w:World}{S:Nat→Prop}{σ:Nat→Option bQ}{args:List al}{ds:Array Value}(h:om w S σ args ds)(aF:cV.eR args=true)(bu:Nat→Option bQ):om w S bu args ds:=
 ⟨h.1,fun i aa=>(h.2 i aa).closed (vp aF i aa) bu⟩
theorem kX.empty {w:World}{S:Nat→Prop}{σ:Nat→Option bQ}{H:aX}(h:kX w S σ H):kX w S (fun _=>none) []:=
 have bT:= ‹bq›;⟨fun h o aj=>by simp at aj,fun h aL o o' b s C cl cF U=>by simp at U,h.small,fun _ _=>rfl⟩
theorem kX.after {w w':World}{S bY:Nat→Prop}{σ VY:Nat→Option bQ}{H b7:aX}{fix:Nat→Prop}{K:al→aX→Prop}(h:kX w S σ H)(ad:kX w' bY VY b7){wu:o7 w S (fun _=>none) []}(ao:vP (nv w S (fun _=>none) [] fix K wu) w' bY VY b7):
 kX w' bY σ H∧ ∀(gm:al→aX→Prop) (aJ:o7 w S σ H),vP (nv w S σ H (fun h=>h<H.length) gm aJ) w' bY σ H:=by
 have eO: ∀b,¬qK (fun _=>none) [] b:=by rintro b ⟨h,o,s,C,U,_⟩;simp at U
 have oJ: ∀b,b<w.heap.size→w'.heap[b]? =w.heap[b]? :=fun b ak=>ao.block b ak (eO b);have ah: ∀{VX:Nat→Option bQ} {x v},bp w S VX x v→bp w' bY VX x v:=fun ah=>ah.mono ao.hD (fun b ak=>oJ b (h.small b ak)) _ (fun _ _ h=>h);have YG: ∀b,b<w.heap.size→ ¬S b→ ¬bY b:=by
  intro b ak ax gA;rcases ao.e4 b gA with U|U|U
  ·exact ax U
  ·exact eO b U
  ·simp only [nv] at U;omega
 refine ⟨⟨fun aL o aj=> ?_,h.hi,ad.small,h.hG⟩,fun gm aJ=>⟨ao.os,ao.output,ao.tape,ao.size,fun b ak _=>oJ b ak,ao.hD,fun b ak=>(ao.e4 b ak).elim .inl (fun h=>h.elim (fun h=>absurd h (eO b)) (fun h=> .inr (.inr h))),fun _ _=>rfl,fun _ h=>h,fun h o b s C U ab=> .inl ⟨h,o,s,C,U,ab⟩⟩⟩;rcases h.live aL o aj with aF|⟨b,C,cur,U,ab,aw,bg,bF,dm,fi⟩
 ·exact .inl aF
 ·right;have bC:=ab.lt;refine ⟨b,C,cur,U,ab.mono (oJ b bC) ah,aw,bg,bF,YG b bC dm,fun i j aa ae=> ?_⟩;obtain ⟨v,aD,aE,bM⟩:=fi i j aa ae;exact ⟨v,aD,ah aE,bM⟩
mutual
def al.kh (H:aX):al→al
 | .aA h i n=>match H[h]? with
  |some (some o)=> .ro o.c i n
  |_=> .any
 | .ptr h i j=>match H[h]? with
  |some (some o)=> .de o.c i j
  |_=> .any
 | .fn f l=> .fn f (al.px H l)
 | .agg l=> .agg (al.px H l)
 | .cd l=> .cd (al.px H l)
 | .mp h=>match H[h]? with
  |some (some o)=>match o.c with
   | .mp ks vs=> .jK ks vs
   |_=> .any
  |_=> .any
 |v=>v
def al.px (H:aX):List al→List al
 |[]=>[]
 |v::r=>v.kh H::al.px H r
end
theorem vn (H:aX)(l:List al):(al.px H l).length=l.length:=by
 have bT:= ‹bq›;induction l with
 |nil=>rfl
 |cons v r a8=>simp [al.px,a8]
theorem Hk (H:aX)(l:List al)(i:Nat)(aa:i<l.length):(al.px H l).getD i .any=(l.getD i .any).kh H:=by
 have bT:= ‹bq›;induction l generalizing i with
 |nil=>simp at aa
 |cons v r a8=>cases i with
  |zero=>rfl
  |succ i=>simpa [al.px] using a8 i (by simpa using aa)
def eV:Cells→Prop
 | .mp ks vs=>cV.eR ks=true∧cV.eR vs=true
 |c=> ∀i j,i<c.len→j<c.aC→cV (c.at i j)=true
theorem eV.row {c:Cells}(h:eV c): ∀i j,i<c.len→j<c.aC→cV (c.at i j)=true:=by have bT:= ‹bq›;cases c<;>first|exact h|exact fun i j aa=>absurd aa (gy _)
theorem eV.mp {c:Cells}(h:eV c){ks vs:List al}(av:c= .mp ks vs):cV.eR ks=true∧cV.eR vs=true:=by have bT:= ‹bq›;subst av;exact h
theorem Rw {c:Cells}(h:c.simple=true):eV c:=by have bT:= ‹bq›;cases c<;>first|exact (fun i j _ _=>rfl)|cases h
mutual
def na (H:aX):al→Prop
 | .aA h i n=> ∀o,H[h]? =some (some o)→i+n≤o.c.len
 | .ptr h i _=> ∀o,H[h]? =some (some o)→i<o.c.len
 | .fn _ l=>oe H l
 | .agg l=>oe H l
 | .cd l=>oe H l
 |_=>True
def oe (H:aX):List al→Prop
 |[]=>True
 |v::r=>na H v∧oe H r
end
theorem yO {H:aX}{l:List al}(h:oe H l)(i:Nat)(aa:i<l.length):na H (l.getD i .any):=by
 have bT:= ‹bq›;induction l generalizing i with
 |nil=>simp at aa
 |cons v r a8=>cases i with
  |zero=>exact h.1
  |succ i=>simpa using a8 h.2 i (by simpa using aa)
def zb (w:World)(S:Nat→Prop)(σ:Nat→Option bQ)(H:aX):Prop:=
 ∀h o,H[h]? =some (some o)→
  (σ h=some .k8∧o.c.len=0)∨
  ∃b C cur,σ h=some (.at b o.c.aC C)∧Lays w S σ o b cur C∧cur.size=C*o.c.aC∧C≤maxLen+1∧o.c.len≤C∧ ¬S b∧
   ∀i j,i<o.c.len→j<o.c.aC→ ∃v,cur[i*o.c.aC+j]? =some v∧bp w S σ (o.c.at i j) v∧v.oneCell'=true
theorem bp.freeze {w:World}{S:Nat→Prop}{σ:Nat→Option bQ}{H:aX}(sn:zb w S σ H)(e6: ∀(h:Nat) (o:bk),H[h]? =some (some o)→eV o.c){bY:Nat→Prop}(dp: ∀b,S b→bY b)(xV: ∀h o b s C,H[h]? =some (some o)→σ h=some (.at b s C)→bY b){x:al}{v:Value}(ah:bp w S σ x v): ∀bu,na H x→bp w bY bu (x.kh H) v:=by
 have j0: ∀{lJ:Nat→Option bQ} {x v},bp w S lJ x v→bp w bY lJ x v:=fun h=>h.mono dp (fun _ _=>rfl) _ (fun _ _ h=>h);obtain ⟨lJ,nS⟩: ∃lJ,lJ=σ:=⟨σ,rfl⟩
 rw [←nS] at ah;induction ah with
 |int=>intros;constructor
 |bool=>intros;constructor
 |str=>intros;constructor
 |nil=>intros;constructor
 |jJ=>intros;constructor
 |ro _ c i len b o cap val e1 hlen av hU U a8=>intro bu _;exact .ro _ _ _ _ _ _ _ val (dp _ e1) hlen av (fun d j hd ae=>j0 (hU d j hd ae)) U
 |aA BP h i len b s C cap bG hlen jE=>
  rw [nS] at bG;intro bu dO;simp only [al.kh];cases aB:H[h]? with
  |none=>exact .any _ _
  |some k9=>cases k9 with
   |none=>exact .any _ _
   |some o=>
    simp only;have z1:i+len≤o.c.len:=dO o aB;rcases sn h o aB with ⟨aF,_⟩|⟨b',cF,cur,fj,g1,g2,g3,g4,g5,g6⟩
    ·rw [bG] at aF;cases aF
    ·rw [bG] at fj;simp only [dy,bQ.at.injEq] at fj;obtain ⟨rfl,rfl,rfl⟩:=fj;by_cases mZ:o.c.aC=0
     ·exact .ro _ _ _ _ _ _ _ (fun _ _=>undef) (xV h o b _ C aB bG) hlen (fun d j hd ae=>by omega) (fun d j hd ae=>by omega) (fun d j hd ae=>by omega)
     obtain ⟨mk,g1,_,_⟩:=g1.cells mZ;have hk: ∀d j,d<len→j<o.c.aC→ ∃u,cur[(i+d)*o.c.aC+j]? =some u∧bp w S σ (o.c.at (i+d) j) u∧u.oneCell'=true:=fun d j hd ae=>g6 (i+d) j J ae;refine .ro _ _ _ _ _ _ _ (fun d j=>(cur[(i+d)*o.c.aC+j]?).getD undef) (xV h o b _ C aB bG) hlen (fun d j hd ae=> ?_) (fun d j hd ae=> ?_) (fun d j hd ae=> ?_)
     ·obtain ⟨u,aD,_⟩:=hk d j hd ae;have e:i*o.c.aC+d*o.c.aC+j=(i+d)*o.c.aC+j:=by rw [ef]
      simp [World.cell?,g1,e,aD]
     ·obtain ⟨u,aD,aE,_⟩:=hk d j hd ae;simp only [aD,oy];exact j0 (aE.closed ((e6 h o aB).row _ _ J ae) _)
     ·obtain ⟨u,aD,_,bM⟩:=hk d j hd ae;simp only [aD,oy];exact bM
 |mp BP h b bG=>
  rw [nS] at bG;intro bu dO;simp only [al.kh];cases aB:H[h]? with
  |none=>exact .any _ _
  |some k9=>cases k9 with
   |none=>exact .any _ _
   |some o=>
    simp only;rcases sn h o aB with ⟨aF,_⟩|⟨b',cF,cur,fj,g1,g2,g3,g4,g5,g6⟩
    ·rw [bG] at aF;cases aF
    ·rw [bG] at fj;simp only [dy,bQ.at.injEq] at fj;obtain ⟨rfl,cq,rfl⟩:=fj;cases g1 with
     |row mk _ _ dR=>omega
     |map ks vs es clock av _ ak aF au hd he=>
      simp only [av]
      ·have a1:=(e6 h o aB).mp av;refine .jK _ _ _ b es clock (fun i=>(es[i]?).getD default) (xV h o b _ _ aB (by rw [bG])) ak aF au hd (fun i aa=> ?_) (fun i aa=> ?_) (fun i aa=> ?_)
       ·obtain ⟨e,aD,_⟩:=he i aa;simp [aD]
       ·obtain ⟨e,aD,aE,_⟩:=he i aa;simp only [aD,oy];exact j0 (aE.closed (vp a1.1 i aa) _)
       ·obtain ⟨e,aD,_,bM⟩:=he i aa;simp only [aD,oy];exact j0 (bM.closed (vp a1.2 i J) _)
 |jK _ ks vs b es clock e e1 ak aF au hd he ao ah KF KH=>intro bu _;exact .jK _ _ _ b es clock e (dp _ e1) ak aF au hd he (fun i aa=>j0 (ao i aa)) (fun i aa=>j0 (ah i aa))
 |hW _ h bG=>
  intro bu dO;simp only [al.kh];cases aB:H[h]? with
  |none=>exact .any _ _
  |some k9=>cases k9 with
   |none=>exact .any _ _
   |some o=>exact .jJ _ _ _ _ _
 |de _ c i j b o val e1 av hU U a8=>intro bu _;exact .de _ _ _ _ _ _ val (dp _ e1) av (fun e he=>j0 (hU e he)) U
 |ptr BP h i j b s C bG=>
  rw [nS] at bG;intro bu dO;simp only [al.kh];cases aB:H[h]? with
  |none=>exact .any _ _
  |some k9=>cases k9 with
   |none=>exact .any _ _
   |some o=>
    simp only;have z1:i<o.c.len:=dO o aB;rcases sn h o aB with ⟨aF,_⟩|⟨b',cF,cur,fj,g1,g2,g3,g4,g5,g6⟩
    ·rw [bG] at aF;cases aF
    ·rw [bG] at fj;simp only [dy,bQ.at.injEq] at fj;obtain ⟨rfl,rfl,rfl⟩:=fj;by_cases mZ:o.c.aC=0
     ·exact .de _ _ _ _ _ _ (fun _=>undef) (xV h o b _ C aB bG) (fun e he=>by omega) (fun e he=>by omega) (fun e he=>by omega)
     obtain ⟨mk,g1,_,_⟩:=g1.cells mZ;refine .de _ _ _ _ _ _ (fun e=>(cur[i*o.c.aC+(j+e)]?).getD undef) (xV h o b _ C aB bG) (fun e he=> ?_) (fun e he=> ?_) (fun e he=> ?_)
     ·obtain ⟨u,aD,_⟩:=g6 i (j+e) z1 he;have gY:i*o.c.aC+j+e=i*o.c.aC+(j+e):=J;simp [World.cell?,g1,gY,aD]
     ·obtain ⟨u,aD,aE,_⟩:=g6 i (j+e) z1 he;simp only [aD,oy];exact j0 (aE.closed ((e6 h o aB).row _ _ z1 he) _)
     ·obtain ⟨u,aD,_,bM⟩:=g6 i (j+e) z1 he;simp only [aD,oy];exact bM
 |oP=>intros;constructor
 |fn _ f cap vs au ah a8=>intro bu dO;exact .fn _ _ _ _ (by rw [vn];exact au) (fun i aa=>by rw [vn] at aa;rw [Hk H cap i aa];exact a8 i aa nS bu (yO dO i aa))
 |oO=>intros;constructor
 |iface=>intros;constructor
 |nd=>intros;constructor
 |agg _ l vs au ah U a8=>intro bu dO;exact .agg _ _ _ (by rw [vn];exact au) (fun i aa=>by rw [vn] at aa;rw [Hk H l i aa];exact a8 i aa nS bu (yO dO i aa)) (fun i aa=>U i (by rwa [vn] at aa))
 |cd _ l vs au ah a8=>intro bu dO;exact .cd _ _ _ (by rw [vn];exact au) (fun i aa=>by rw [vn] at aa;rw [Hk H l i aa];exact a8 i aa nS bu (yO dO i aa))
 |any=>intros;constructor
theorem cg.value {P:Program}{f:FuncId}{args:List al}{fix:Nat→Prop}{r:al}{K:al→aX→Prop}(av:cg P f args [] fix K)(kj: ∀h,¬fix h)(aF:cV.eR args=true)(dn: ∀cH b7,K cH b7→cH.kh b7=r∧na b7 cH∧ ∀(h:Nat) (o:bk),b7[h]? =some (some o)→eV o.c):bD P f args r:=by
 intro H;refine ⟨av.1,fun w σ S ds aJ ad aN ah=> ?_⟩;refine (av.2 w (fun _=>none) S ds (aJ.less (fun _ h=>h) (fun _ h=>h.nil)) ad.empty (fun h aU=>absurd aU (kj h)) (ah.closed aF _)).mono ?_;rintro e w' ⟨v,cH,bu,bY,b7,rfl,g1,g2,g3,g4⟩;obtain ⟨eF,eG,gB⟩:=dn cH b7 g4;have eO: ∀b,¬qK (fun _=>none) [] b:=by rintro b ⟨h,o,s,C,U,_⟩;simp at U
 --the region takes the new objects' blocks in
 let e4:Nat→Prop:=fun b=>bY b∨ ∃h o s C,b7[h]? =some (some o)∧bu h=some (.at b s C)
 have bC: ∀b,(∃h o s C,b7[h]? =some (some o)∧bu h=some (.at b s C))→w.heap.size≤b∧b<w'.heap.size:=by
  rintro b ⟨h,o,s,C,U,ab⟩;refine ⟨?_,?_⟩
  ·rcases g3.own h o b s C U ab with aw|aw
   ·exact absurd aw (eO b)
   ·exact aw
  ·rcases g1.live h o U with ⟨aF,_⟩|⟨b',cF,cur,fj,g,_⟩
   ·rw [ab] at aF;cases aF
   ·rw [ab] at fj;simp only [dy,bQ.at.injEq] at fj;rw [fj.1];exact g.lt
 have Aj:kX w' e4 (fun _=>none) []:=⟨fun h o aj=>by simp at aj,fun h aL o o' b s C cl cF U=>by simp at U,fun b ak=>by
  rcases ak with U|U
  ·exact g1.small b U
  ·exact (bC b U).2,fun _ _=>rfl⟩
 have mW:vP (nv w S (fun _=>none) [] (fun _=>False) K (aJ.less (fun _ h=>h) (fun _ h=>h.nil))) w' e4 (fun _=>none) []:=
  ⟨g3.os,g3.output,g3.tape,g3.size,g3.block,fun b ak=> .inl (g3.hD b ak),fun b ak=>by
   rcases ak with U|U
   ·exact g3.e4 b U
   ·exact .inr (.inr (bC b U).1),fun _ h=>h.elim,fun _ h=>h.elim,fun h o b s C U=>by simp at U⟩
 obtain ⟨gx,a2⟩:=ad.after Aj mW;refine ⟨v,r,σ,e4,H,I,gx,?_,a2 _ _,I,I⟩;rw [←eF];exact bp.freeze g1.live gB (fun _ h=> .inl h) (fun h o b s C U ab=> .inr ⟨h,o,s,C,U,ab⟩) g2 σ eG
theorem cg.rn {P:Program}{f:FuncId}{args:List al}{fix:Nat→Prop}{r:al}(av:cg P f args [] fix (fun dk _=>dk=r))(kj: ∀h,¬fix h)(aF:cV.eR args=true)(ad:cV r=true):bD P f args r:=by intro H;refine ⟨av.1,fun w σ S ds aJ jI aN ah=> ?_⟩;refine (av.2 w (fun _=>none) S ds (aJ.less (fun _ h=>h) (fun _ h=>h.nil)) jI.empty (fun h aU=>absurd aU (kj h)) (ah.closed aF _)).mono ?_;rintro e w' ⟨v,cH,bu,bY,b7,rfl,g1,g2,g3,g4⟩;obtain ⟨gx,a2⟩:=jI.after g1 g3;subst g4;exact ⟨v,cH,σ,bY,H,I,gx,g2.closed ad σ,a2 _ _,I,I⟩
end Go.ai
namespace Go.ai
variable [bq]
open Go.RowKit
def za (P:Program)(f:FuncId)(args:List al)(r:Nat→al)(o:bk):Prop:= ∀H,cg P f args H (fun h=>h<H.length) (fun dk bE=>dk=r H.length∧bE=H++[some o])
mutual
def al.k7 (H:aX)(id new:Nat):al→al
 | .aA h i n=>bif Nat.beq h id then .aA new i n else match H[h]? with
  |some (some o)=> .ro o.c i n
  |_=> .any
 | .ptr h i j=>bif Nat.beq h id then .ptr new i j else match H[h]? with
  |some (some o)=> .de o.c i j
  |_=> .any
 | .fn f l=> .fn f (al.keeps H id new l)
 | .agg l=> .agg (al.keeps H id new l)
 | .cd l=> .cd (al.keeps H id new l)
 | .mp h=>bif Nat.beq h id then .mp new else (al.mp h).kh H
 |v=>v
def al.keeps (H:aX)(id new:Nat):List al→List al
 |[]=>[]
 |v::r=>v.k7 H id new::al.keeps H id new r
end
theorem yz (H:aX)(id new:Nat)(l:List al):(al.keeps H id new l).length=l.length:=by
 have bT:= ‹bq›;induction l with
 |nil=>rfl
 |cons v r a8=>simp [al.keeps,a8]
theorem LQ (H:aX)(id new:Nat)(l:List al)(i:Nat)(aa:i<l.length):(al.keeps H id new l).getD i .any=(l.getD i .any).k7 H id new:=by
 have bT:= ‹bq›;induction l generalizing i with
 |nil=>simp at aa
 |cons v r a8=>cases i with
  |zero=>rfl
  |succ i=>simpa [al.keeps] using a8 i (by simpa using aa)
theorem bp.k7 {w:World}{S:Nat→Prop}{σ:Nat→Option bQ}{H:aX}{id new:Nat}(sn:zb w S σ H)(e6: ∀(h:Nat) (o:bk),H[h]? =some (some o)→eV o.c){bY:Nat→Prop}(dp: ∀b,S b→bY b)(xV: ∀h o b s C,h≠id→H[h]? =some (some o)→σ h=some (.at b s C)→bY b){x:al}{v:Value}(ah:bp w S σ x v): ∀bu,(∀B,σ id=some B→bu new=some B)→na H x→bp w bY bu (x.k7 H id new) v:=by
 have j0: ∀{lJ:Nat→Option bQ} {x v},bp w S lJ x v→bp w bY lJ x v:=fun h=>h.mono dp (fun _ _=>rfl) _ (fun _ _ h=>h)
 --the others:as by freeze,over the memory without id
 have mn: ∀h,h≠id→(H.set id none)[h]? =H[h]? :=fun h b2=>k0 (p4 b2);have cS: ∀h o,(H.set id none)[h]? =some (some o)→h≠id∧H[h]? =some (some o):=by
  intro h o aj;by_cases he:h=id
  ·subst he;rw [B0] at aj;simp only [fS] at aj;split at aj<;>simp at aj
  ·exact ⟨he,by rwa [mn h he] at aj⟩
 have ZD:zb w S σ (H.set id none):=fun h o aj=>sn h o (cS h o aj).2;have kh: ∀{x v},bp w S σ x v→na (H.set id none) x→ ∀bu,bp w bY bu (x.kh (H.set id none)) v:=fun ah dO bu=>
  bp.freeze ZD (fun h o aj=>e6 h o (cS h o aj).2) dp (fun h o b s C U ab=>xV h o b s C (cS h o U).1 (cS h o U).2 ab) ah bu dO
 obtain ⟨lJ,nS⟩: ∃lJ,lJ=σ:=⟨σ,rfl⟩
 rw [←nS] at ah;induction ah with
 |int=>intros;constructor
 |bool=>intros;constructor
 |str=>intros;constructor
 |nil=>intros;constructor
 |jJ=>intros;constructor
 |ro _ c i len b o cap val e1 hlen av hU U a8=>intro bu _ _;exact .ro _ _ _ _ _ _ _ val (dp _ e1) hlen av (fun d j hd ae=>j0 (hU d j hd ae)) U
 |aA BP h i len b s C cap bG hlen jE=>
  rw [nS] at bG;intro bu hid dO;simp only [al.k7];by_cases he:h=id
  ·subst he;simp only [ou,kZ];exact .aA _ _ _ _ _ _ _ _ (hid _ bG) hlen jE
  ·simp only [db he,nA];have:=kh (bp.aA σ h i len b s C cap bG hlen jE) (by simp only [na];rw [mn h he];exact dO) bu;simp only [al.kh] at this;rw [mn h he] at this;exact this
 |hW BP h bG=>
  rw [nS] at bG;intro bu hid dO;simp only [al.k7];by_cases he:h=id
  ·subst he;simp only [ou,kZ];exact .hW _ _ (hid _ bG)
  ·simp only [db he,nA];have:=kh (bp.hW σ h bG) (by simp only [na];rw [mn h he];exact dO) bu;simp only [al.kh] at this;rw [mn h he] at this;exact this
 |de _ c i j b o val e1 av hU U a8=>intro bu _ _;exact .de _ _ _ _ _ _ val (dp _ e1) av (fun e he=>j0 (hU e he)) U
 |ptr BP h i j b s C bG=>
  rw [nS] at bG;intro bu hid dO;simp only [al.k7];by_cases he:h=id
  ·subst he;simp only [ou,kZ];exact .ptr _ _ _ _ _ _ _ (hid _ bG)
  ·simp only [db he,nA];have:=kh (bp.ptr σ h i j b s C bG) (by simp only [na];rw [mn h he];exact dO) bu;simp only [al.kh] at this;rw [mn h he] at this;exact this
 |oP=>intros;constructor
 |fn _ f cap vs au ah a8=>intro bu hid dO;exact .fn _ _ _ _ (by rw [yz];exact au) (fun i aa=>by rw [yz] at aa;rw [LQ H id new cap i aa];exact a8 i aa nS bu hid (yO dO i aa))
 |oO=>intros;constructor
 |iface=>intros;constructor
 |nd=>intros;constructor
 |agg _ l vs au ah U a8=>intro bu hid dO;exact .agg _ _ _ (by rw [yz];exact au) (fun i aa=>by rw [yz] at aa;rw [LQ H id new l i aa];exact a8 i aa nS bu hid (yO dO i aa)) (fun i aa=>U i (by rwa [yz] at aa))
 |mp BP h b bG=>
  rw [nS] at bG;intro bu hid dO;simp only [al.k7];by_cases he:h=id
  ·subst he;simp only [ou,kZ];exact .mp _ _ _ (hid _ bG)
  ·simp only [db he,nA];have:=kh (bp.mp σ h b bG) trivial bu;simp only [al.kh] at this⊢;rw [mn h he] at this;exact this
 |jK _ ks vs b es clock e e1 ak aF au hd he ao ah KF KH=>intro bu _ _;exact .jK _ _ _ b es clock e (dp _ e1) ak aF au hd he (fun i aa=>j0 (ao i aa)) (fun i aa=>j0 (ah i aa))
 |cd _ l vs au ah a8=>intro bu hid dO;exact .cd _ _ _ (by rw [yz];exact au) (fun i aa=>by rw [yz] at aa;rw [LQ H id new l i aa];exact a8 i aa nS bu hid (yO dO i aa))
 |any=>intros;constructor
mutual
def flat:al→Bool
 | .ro _ _ n=>Nat.beq n 0
 | .de _ _ _=>false
 | .fn _ l=>rJ l
 | .agg l=>rJ l
 | .cd l=>rJ l
 | .jK _ _=>false
 |_=>true
def rJ:List al→Bool
 |[]=>true
 |v::r=>flat v && rJ r
end
theorem DG {l:List al}(h:rJ l=true)(i:Nat)(aa:i<l.length):flat (l.getD i .any)=true:=by
 have bT:= ‹bq›;induction l generalizing i with
 |nil=>simp at aa
 |cons v r a8=>
  simp only [rJ,ei] at h;cases i with
  |zero=>simpa using h.1
  |succ i=>simpa using a8 h.2 i (by simpa using aa)
theorem bp.flat {w:World}{S:Nat→Prop}{σ:Nat→Option bQ}{x:al}{v:Value}(h:bp w S σ x v):flat x=true→ ∀bY,bp w bY σ x v:=by
 induction h with
 |int=>intros;constructor
 |bool=>intros;constructor
 |str=>intros;constructor
 |nil=>intros;constructor
 |jJ=>intros;constructor
 |ro σ c i len b o cap val e1 hlen av ah U a8=>
  intro aN bY;have:=ot aN;subst this;exact .jJ _ _ _ _ _
 |aA σ h i len b s C cap bG hlen jE=>intro _ bY;exact .aA _ _ _ _ _ _ _ _ bG hlen jE
 |hW σ h bG=>intro _ bY;exact .hW _ _ bG
 |de=>intro h;cases h
 |ptr σ h i j b s C bG=>intro _ bY;exact .ptr _ _ _ _ _ _ _ bG
 |oP=>intros;constructor
 |fn σ f cap vs au ah a8=>intro aF bY;exact .fn _ _ _ _ au (fun i aa=>a8 i aa (DG aF i aa) _)
 |oO=>intros;constructor
 |iface=>intros;constructor
 |nd=>intros;constructor
 |agg σ l vs au ah U a8=>intro aF bY;exact .agg _ _ _ au (fun i aa=>a8 i aa (DG aF i aa) _) U
 |cd σ l vs au ah a8=>intro aF bY;exact .cd _ _ _ au (fun i aa=>a8 i aa (DG aF i aa) _)
 |mp σ h b bG=>intro _ bY;exact .mp _ _ _ bG
 |jK=>intro h;cases h
 |any=>intros;constructor
def E3:Cells→Prop
 | .mp ks vs=>rJ ks=true∧rJ vs=true
 |c=> ∀i j,i<c.len→j<c.aC→flat (c.at i j)=true
theorem E3.row {c:Cells}(h:E3 c): ∀i j,i<c.len→j<c.aC→flat (c.at i j)=true:=by have bT:= ‹bq›;cases c<;>first|exact h|exact fun i j aa=>absurd aa (gy _)
theorem X1 {c:Cells}(h:E3 c){ks vs:List al}(av:c= .mp ks vs):rJ ks=true∧rJ vs=true:=by have bT:= ‹bq›;subst av;exact h
def vi (iT H:aX):Prop:= ∀(h:Nat) (o:bk),iT[h]? =some (some o)→H[h]? =some (some o)
def NL (σ:Nat→Option bQ)(iT:aX)(b:Nat):Prop:= ∃h o s C,iT[h]? =some (some o)∧σ h=some (.at b s C)
theorem cg.over {P:Program}{f:FuncId}{args q7:List al}{fix:Nat→Prop}{K gm:al→aX→Prop}{H iT:aX}(av:cg P f args [] fix K)(kj: ∀h,¬fix h)(iw:vi iT H)(aan: ∀(h:Nat) (o:bk),iT[h]? =some (some o)→eV o.c)(CJ:al.px iT q7=args)(dO:oe iT q7)(aF:cV.eR args=true)(dn: ∀(cH:al) (b7:aX),K cH b7→na b7 cH∧(∀(h:Nat) (o:bk),b7[h]? =some (some o)→eV o.c)∧ ∃(id:Nat) (o:bk),(b7.length≤id∧gm (cH.k7 b7 id H.length) H∧((∀(h:Nat) (o:bk),iT[h]? ≠some (some o))∨flat (cH.k7 b7 id H.length)=true))∨
  (b7[id]? =some (some o)∧gm (cH.k7 b7 id H.length) (H++[some o])∧((∀(h:Nat) (o:bk),iT[h]? ≠some (some o))∨(flat (cH.k7 b7 id H.length)=true∧E3 o.c)))):
 cg P f q7 H (fun h=>h<H.length) gm:=by
 refine ⟨av.1,fun w σ S ds aJ ad aN ah=> ?_⟩
 let IE:Nat→Prop:=fun b=>S b∨NL σ iT b
 have Yx: ∀b,NL σ iT b→b<w.heap.size:=by
  rintro b ⟨h,o,s,C,U,ab⟩;rcases ad.live h o (iw h o U) with ⟨aF,_⟩|⟨b',cF,cur,fj,g,_⟩
  ·rw [ab] at aF;cases aF
  ·rw [ab] at fj;simp only [dy,bQ.at.injEq] at fj;rw [fj.1];exact g.lt
 have FR:kX w IE (fun _=>none) []:=⟨fun h o aj=>by simp at aj,fun h aL o o' b s C cl cF U=>by simp at U,fun b ak=>ak.elim (ad.small b) (Yx b),fun _ _=>rfl⟩
 have Yw:zb w S σ iT:=fun h o aj=>ad.live h o (iw h o aj);have lX:om w IE (fun _=>none) args ds:=by subst CJ;refine ⟨by rw [ah.1,vn],fun i aa=> ?_⟩;rw [vn] at aa;rw [Hk iT q7 i aa];exact bp.freeze Yw aan (fun _ h=> .inl h) (fun h o b s C U ab=> .inr ⟨h,o,s,C,U,ab⟩) (ah.2 i aa) _ (yO dO i aa)
 refine (av.2 w (fun _=>none) IE ds (aJ.less (fun _ h=> .inl h) (fun _ h=>h.nil)) FR (fun h aU=>absurd aU (kj h)) lX).mono ?_;rintro e w' ⟨v,cH,bu,bY,b7,rfl,g1,g2,g3,g4⟩;obtain ⟨eF,eG,id,o,gB⟩:=dn cH b7 g4;have eO: ∀b,¬qK (fun _=>none) [] b:=by rintro b ⟨h,o,s,C,U,_⟩;simp at U
 have oJ: ∀b,b<w.heap.size→w'.heap[b]? =w.heap[b]? :=fun b ak=>g3.block b ak (eO b);have pE: ∀h o b s C,b7[h]? =some (some o)→bu h=some (.at b s C)→w.heap.size≤b∧b<w'.heap.size:=by
  intro h o b s C U ab;refine ⟨?_,?_⟩
  ·rcases g3.own h o b s C U ab with aw|aw
   ·exact absurd aw (eO b)
   ·exact aw
  ·rcases g1.live h o U with ⟨aF,_⟩|⟨b',cF,cur,fj,g,_⟩
   ·rw [ab] at aF;cases aF
   ·rw [ab] at fj;simp only [dy,bQ.at.injEq] at fj;rw [fj.1];exact g.lt
 let IB:Nat→Prop:=fun b=> ∃h o s C,h≠id∧b7[h]? =some (some o)∧bu h=some (.at b s C)
 let e4:Nat→Prop:=fun b=>S b∨(w.heap.size≤b∧(bY b∨IB b))
 have ml:(∀(h:Nat) (o:bk),iT[h]? ≠some (some o))→ ∀b,bY b∨IB b→e4 b:=by
  intro jo b ak;rcases ak with ak|ak
  ·rcases g3.e4 b ak with U|U|U
   ·rcases U with U|⟨h,o,s,C,U,_⟩
    ·exact .inl U
    ·exact absurd U (jo h o)
   ·exact absurd U (eO b)
   ·exact .inr ⟨U,.inl ak⟩
  ·obtain ⟨h,o,s,C,U,ab,aw⟩:=ak;exact .inr ⟨(pE h o b s C ab aw).1,.inr ⟨h,o,s,C,U,ab,aw⟩⟩
 have YF: ∀b,b<w.heap.size→e4 b→S b:=by
  intro b ak ax;rcases ax with U|⟨U,_⟩
  ·exact U
  ·omega
 have OS: ∀b,e4 b→b<w'.heap.size:=by
  intro b ax;rcases ax with U|⟨_,U|⟨h,o,s,C,_,ab,aw⟩⟩
  ·have:=ad.small b U;have:=g3.size;simp only [nv] at this;omega
  ·exact g1.small b U
  ·exact (pE h o b s C ab aw).2
 --the old objects
 have hold: ∀sX:Nat→Option bQ,(∀h B,σ h=some B→sX h=some B)→zb w' e4 sX H:=by
  intro sX wC h o aj;rcases ad.live h o aj with ⟨aF,iZ⟩|⟨b,C,cur,U,ab,aw,bg,bF,dm,fi⟩
  ·exact .inl ⟨wC _ _ aF,iZ⟩
  ·right;have bC:=ab.lt;refine ⟨b,C,cur,wC _ _ U,ab.mono (oJ b bC) (fun h=>h.mono (fun _ h=> .inl h) (fun b ak=>oJ b (ad.small b ak)) _ wC),aw,bg,bF,fun ax=>dm (YF b bC ax),fun i j aa ae=> ?_⟩;obtain ⟨v,aD,aE,bM⟩:=fi i j aa ae;exact ⟨v,aD,aE.mono (fun _ h=> .inl h) (fun b ak=>oJ b (ad.small b ak)) _ wC,bM⟩
 have FT: ∀sX:Nat→Option bQ,(∀B,bu id=some B→sX H.length=some B)→bp w' (fun b=>bY b∨IB b) sX (cH.k7 b7 id H.length) v:=fun sX ab=>
  bp.k7 g1.live eG (fun _ h=> .inl h) (fun h o b s C b2 U aw=> .inr ⟨h,o,s,C,b2,U,aw⟩) g2 sX ab eF
 rcases gB with ⟨gB,ql,sw⟩|⟨gB,ql,sw⟩
 ·refine ⟨v,_,σ,e4,H,I,⟨hold σ (fun _ _ h=>h),ad.hi,OS,ad.hG⟩,?_,⟨g3.os,g3.output,g3.tape,g3.size,fun b ak _=>oJ b ak,fun b ak=> .inl ak,fun b ak=>ak.elim .inl (fun h=> .inr (.inr h.1)),fun _ _=>rfl,fun _ h=>h,fun h o b s C U ab=> .inl ⟨h,o,s,C,U,ab⟩⟩,ql⟩;have U:=FT σ (fun B cZ=>by rw [g1.hG id gB] at cZ;cases cZ);rcases sw with jo|ha
  ·exact U.mono (ml jo) (fun _ _=>rfl) _ (fun _ _ h=>h)
  ·exact U.flat ha _
 ·have Pp:=g1.live id o gB;obtain ⟨B,cZ⟩: ∃B,bu id=some B:=by
   rcases Pp with ⟨h,_⟩|⟨b,C,cur,h,_⟩
   ·exact ⟨_,h⟩
   ·exact ⟨_,h⟩
  have mV: ∀h xq,σ h=some xq→cN σ H.length B h=some xq:=by
   intro h xq ta;unfold cN;split
   ·rename_i he;rw [he,ad.hG _ (bR _)] at ta;cases ta
   ·exact ta
  have cS: ∀aL o',(H++[some o])[aL]? =some (some o')→(aL=H.length∧o'=o)∨(aL<H.length∧H[aL]? =some (some o')):=by
   intro aL o' aj;by_cases he:aL<H.length
   ·rw [hQ he] at aj;exact .inr ⟨he,aj⟩
   ·by_cases jG:aL=H.length
    ·subst jG;simp at aj;exact .inl ⟨rfl,aj.symm⟩
    ·have:(H++[some o]).length≤aL:=by simp;omega
     rw [jT this] at aj;cases aj
  have FH: ∀h o' b s cF,h<H.length→H[h]? =some (some o')→σ h=some (.at b s cF)→b<w.heap.size:=by
   intro h o' b s cF _ aj ak;rcases ad.live h o' aj with ⟨aF,_⟩|⟨b',cF,cur,fj,g,_⟩
   ·rw [ak] at aF;cases aF
   ·rw [ak] at fj;simp only [dy,bQ.at.injEq] at fj;rw [fj.1];exact g.lt
  have nO: ∀h,h<H.length→cN σ H.length B h=σ h:=fun h au=>by simp [cN,ow au]
  refine ⟨v,_,cN σ H.length B,e4,H++[some o],I,⟨?_,?_,OS,fun h au=> ?_⟩,?_,⟨g3.os,g3.output,g3.tape,g3.size,fun b ak _=>oJ b ak,fun b ak=> .inl ak,fun b ak=>ak.elim .inl (fun h=> .inr (.inr h.1)),fun h au=>nO h au,fun h au=>by have k5:h<H.length:=au;simp;omega,fun h o' b s C U ab=> ?_⟩,ql⟩
  ·intro aL o' aj;rcases cS aL o' aj with ⟨rfl,rfl⟩|⟨bC,cU⟩
   ·rcases Pp with ⟨aF,iZ⟩|⟨b,C,cur,U,ab,aw,bg,bF,dm,fi⟩
    ·left;rw [cZ] at aF;exact ⟨by simp [cN,aF],iZ⟩
    ·right;have sk:=pE id o' b _ C gB U;rw [cZ] at U;have gZ: ∀{x v},bp w' bY bu x v→cV x=true→((∀(h:Nat) (o:bk),iT[h]? ≠some (some o))∨flat x=true)→bp w' e4 (cN σ H.length B) x v:=fun aE tm ao=>by
      have h9:=aE.closed tm (cN σ H.length B);rcases ao with jo|ha
      ·exact h9.mono (fun b ak=>ml jo b (.inl ak)) (fun _ _=>rfl) _ (fun _ _ h=>h)
      ·exact h9.flat ha _
     have uR:Lays w' e4 (cN σ H.length B) o' b cur C:=by
      cases ab with
      |row mk h hm dR=>exact .row mk h hm dR
      |map ks vs es clock av dR h aF au hd he=>
       have Aj:=(eG id o' gB).mp av;have Pj:((∀(h:Nat) (o:bk),iT[h]? ≠some (some o))∨(rJ ks=true∧rJ vs=true)):=by
        rcases sw with h|h
        ·exact .inl h
        ·exact .inr (X1 h.2 av)
       refine .map ks vs es clock av dR h aF au hd (fun i aa=> ?_);obtain ⟨e,aD,aE,bM⟩:=he i aa;exact ⟨e,aD,gZ aE (vp Aj.1 i aa) (Pj.imp (fun h=>h) (fun h=>DG h.1 i aa)),gZ bM (vp Aj.2 i J) (Pj.imp (fun h=>h) (fun h=>DG h.2 i J))⟩
     refine ⟨b,C,cur,by simp [cN,U],uR,aw,bg,bF,?_,fun i j aa ae=> ?_⟩
     ·rintro (ax|⟨_,ax|⟨ar,acA,AH,VZ,b2,aaN,CY⟩⟩)
      ·have:=ad.small b ax;omega
      ·exact dm ax
      ·exact b2 (g1.hi ar id acA o' b AH VZ _ C aaN gB CY (by rw [cZ];exact U))
     ·obtain ⟨u,aD,aE,bM⟩:=fi i j aa ae;refine ⟨u,aD,?_,bM⟩;have h9:=aE.closed ((eG id o' gB).row i j aa ae) (cN σ H.length B);rcases sw with jo|ha
      ·exact h9.mono (fun b ak=>ml jo b (.inl ak)) (fun _ _=>rfl) _ (fun _ _ h=>h)
      ·exact h9.flat (ha.2.row i j aa ae) _
   ·exact hold _ mV aL o' cU
  ·intro U ab o1 o2 b s1 gl s2 fY bO bW aD aE;rcases cS U o1 bO with ⟨rfl,rfl⟩|⟨gh,AD⟩<;>rcases cS ab o2 bW with ⟨rfl,rfl⟩|⟨fB,AE⟩
   ·rfl
   ·simp only [cN,fS] at aD;rw [nO ab fB] at aE;have:=FH ab o2 b s2 fY fB AE aE;have:=(pE id o1 b s1 gl gB (by rw [cZ];exact aD)).1;omega
   ·simp only [cN,fS] at aE;rw [nO U gh] at aD;have:=FH U o1 b s1 gl gh AD aD;have:=(pE id o2 b s2 fY gB (by rw [cZ];exact aE)).1;omega
   ·rw [nO U gh] at aD;rw [nO ab fB] at aE;exact ad.hi U ab o1 o2 b s1 gl s2 fY AD AE aD aE
  ·simp only [c2,fZ,kd] at au;have: ¬h=H.length:=J;simp only [cN,this,gW];exact ad.hG h J
  ·have U:=FT (cN σ H.length B) (fun xq ta=>by rw [cZ] at ta;simp only [dy] at ta;simp [cN,ta]);rcases sw with jo|ha
   ·exact U.mono (ml jo) (fun _ _=>rfl) _ (fun _ _ h=>h)
   ·exact U.flat ha.1 _
  ·rcases cS h o' U with ⟨rfl,rfl⟩|⟨bC,cU⟩
   ·simp only [cN,fS] at ab;exact .inr (pE id o' b s C gB (by rw [cZ];exact ab)).1
   ·rw [nO h bC] at ab;exact .inl ⟨h,o',s,C,cU,ab⟩
theorem akj (H:aX):vi H H:=have bT:= ‹bq›;fun _ _ h=>h
theorem afj (H:aX):vi [] H:=have bT:= ‹bq›;fun h o aU=>by simp at aU
theorem bD.KP {P:Program}{f:FuncId}{args q7:List al}{r:al}{H:aX}(av:bD P f args r)(e6: ∀(h:Nat) (o:bk),H[h]? =some (some o)→eV o.c)(CJ:al.px H q7=args)(dO:oe H q7)(aF:cV.eR args=true)(ad:cV r=true)(ha:flat r=true):
 cg P f q7 H (fun h=>h<H.length) (fun dk bE=>dk=r∧bE=H):=by refine cg.over (av []) (fun h aU=>by simp at aU) (akj H) e6 CJ dO aF ?_;rintro cH b7 ⟨rfl,rfl⟩;have ao:cH.k7 [] 0 H.length=cH:=KL ad;refine ⟨KI ad,fun h o aj=>by simp at aj,0,⟨0,.ints .i64 []⟩,.inl ⟨bR _,⟨ao,I⟩,.inr (by rw [ao];exact ha)⟩⟩
where
 KL {id new:Nat} {xu:aX}: ∀{v:al},cV v=true→v.k7 xu id new=v
  | .int _ _,_=>rfl
  | .bool _,_=>rfl
  | .str _,_=>rfl
  | .nil,_=>rfl
  | .ro _ _ _,_=>rfl
  | .aA _ _ _,ah=>by cases ah
  | .de _ _ _,_=>rfl
  | .ptr _ _ _,ah=>by cases ah
  | .oP,_=>rfl
  | .fn f l,ah=>by simp only [al.k7];rw [ks l ah]
  | .oO,_=>rfl
  | .iface,_=>rfl
  | .nd,_=>rfl
  | .agg l,ah=>by simp only [al.k7];rw [ks l ah]
  | .cd l,ah=>by simp only [al.k7];rw [ks l ah]
  | .mp _,ah=>by cases ah
  | .jK _ _,_=>rfl
  | .any,_=>rfl
 ks {id new:Nat} {xu:aX}: ∀(l:List al),cV.eR l=true→al.keeps xu id new l=l
  |[],_=>rfl
  |v::r,ah=>by simp only [cV.eR,ei] at ah;simp only [al.keeps];rw [KL ah.1,ks r ah.2]
 KI {xu:aX}: ∀{v:al},cV v=true→na xu v
  | .int _ _,_=>trivial
  | .bool _,_=>trivial
  | .str _,_=>trivial
  | .nil,_=>trivial
  | .ro _ _ _,_=>trivial
  | .aA _ _ _,ah=>by cases ah
  | .de _ _ _,_=>trivial
  | .ptr _ _ _,ah=>by cases ah
  | .oP,_=>trivial
  | .fn _ l,ah=>F7 l ah
  | .oO,_=>trivial
  | .iface,_=>trivial
  | .nd,_=>trivial
  | .agg l,ah=>F7 l ah
  | .cd l,ah=>F7 l ah
  | .mp _,ah=>by cases ah
  | .jK _ _,_=>trivial
  | .any,_=>trivial
 F7 {xu:aX}: ∀(l:List al),cV.eR l=true→oe xu l
  |[],_=>trivial
  |v::r,ah=>by simp only [cV.eR,ei] at ah;exact ⟨KI ah.1,F7 r ah.2⟩
theorem cg.fresh {P:Program}{f:FuncId}{args:List al}{fix:Nat→Prop}{r:Nat→al}{o:bk}{K:al→aX→Prop}(av:cg P f args [] fix K)(kj: ∀h,¬fix h)(aF:cV.eR args=true)(a1: ∀H:aX,al.px [] args=args∧oe H args)(dn: ∀(cH:al) (b7:aX),K cH b7→na b7 cH∧(∀(h:Nat) (o:bk),b7[h]? =some (some o)→eV o.c)∧ ∃id,b7[id]? =some (some o)∧ ∀n,cH.k7 b7 id n=r n):za P f args r o:=by intro H;refine cg.over av kj (afj H) (fun h o aj=>by simp at aj) (a1 []).1 (a1 []).2 aF ?_;intro cH b7 aO;obtain ⟨U,ab,id,aw,bg⟩:=dn cH b7 aO;exact ⟨U,ab,id,o,.inr ⟨aw,⟨bg _,I⟩,.inl (fun h o=>by simp)⟩⟩
end Go.ai
namespace Go.ai
variable [bq]
open Go.RowKit
section
variable {ind:Bool}{P:Program}{fn:Func}{c:Ctx}{fr:Fr}{H:aX}{k:List eh}
variable {d:Option Nat}{ty:TypeId}{pos:String}{after:Array Edge}{g:Option (Nat×Bool)}
theorem j3 {x i:Operand}{t e:TypeId}{dG:Cells}{o len ix:Nat}{k:IntKind}{m:Int}(bs:P.underlying t=some (.slice e))(ax:(P.info? e).map (·.size)=some dG.aC)(ar:bA fr x=some (.ro dG o len))(aa:bA fr i=some (.int k m))(x6:o+m.toNat=ix)(ak:0≤m∧m<len):
 bV ind P fn c fr H ⟨d,.indexAddr t x i,ty,pos,after,g⟩ (.de dG ix 0):=x6▸aiw bs ax ar aa ak
theorem gk {x i:Operand}{t e:TypeId}{h o len ix:Nat}{bc:bk}{k:IntKind}{m:Int}(bs:P.underlying t=some (.slice e))(ar:bA fr x=some (.aA h o len))(aU:H[h]? =some (some bc))(ax:(P.info? e).map (·.size)=some bc.c.aC)(aa:bA fr i=some (.int k m))(x6:o+m.toNat=ix)(ak:0≤m∧m<len):
 bV ind P fn c fr H ⟨d,.indexAddr t x i,ty,pos,after,g⟩ (.ptr h ix 0):=x6▸aix bs ar aU ax aa ak
theorem Dp {x:Operand}{t:TypeId}{u:TypeDesc}{dY:IntKind}{l:List Int}{i:Nat}(bs:P.underlying t=some u)(hu:iP u=false)(ar:bA fr x=some (.de (.ints dY l) i 0)):
 bV false P fn c fr H ⟨d,.load t x,ty,pos,after,g⟩ (.int dY (l.getD i 0)):=Hp bs hu ar rfl rfl
theorem Sr {x:Operand}{t:TypeId}{u:TypeDesc}{l:List (List UInt8)}{i:Nat}(bs:P.underlying t=some u)(hu:iP u=false)(ar:bA fr x=some (.de (.strs l) i 0)):
 bV false P fn c fr H ⟨d,.load t x,ty,pos,after,g⟩ (.str (l.getD i [])):=Hp bs hu ar rfl rfl
theorem tE {x:Operand}{t:TypeId}{u:TypeDesc}{n s:Nat}{f:Nat→Nat→al}{i j:Nat}(bs:P.underlying t=some u)(hu:iP u=false)(ar:bA fr x=some (.de (.fn n s f) i j))(ae:Nat.blt j s=true):
 bV false P fn c fr H ⟨d,.load t x,ty,pos,after,g⟩ (f i j):=Hp bs hu ar ae rfl
theorem Dn {x:Operand}{t:TypeId}{u:TypeDesc}{h i:Nat}{nU:TypeId}{dY:IntKind}{l:List Int}(bs:P.underlying t=some u)(hu:iP u=false)(ar:bA fr x=some (.ptr h i 0))(aU:H[h]? =some (some ⟨nU,.ints dY l⟩))(aa:i<l.length):
 bV false P fn c fr H ⟨d,.load t x,ty,pos,after,g⟩ (.int dY (l.getD i 0)):=G2 bs hu ar aU rfl rfl aa
theorem ahh {x:Operand}{t:TypeId}{u:TypeDesc}{h i:Nat}{nU:TypeId}{l:List (List UInt8)}(bs:P.underlying t=some u)(hu:iP u=false)(ar:bA fr x=some (.ptr h i 0))(aU:H[h]? =some (some ⟨nU,.strs l⟩))(aa:i<l.length):
 bV false P fn c fr H ⟨d,.load t x,ty,pos,after,g⟩ (.str (l.getD i [])):=G2 bs hu ar aU rfl rfl aa
theorem AO {x:Operand}{t:TypeId}{u:TypeDesc}{h i j:Nat}{nU:TypeId}{n s:Nat}{f:Nat→Nat→al}(bs:P.underlying t=some u)(hu:iP u=false)(ar:bA fr x=some (.ptr h i j))(aU:H[h]? =some (some ⟨nU,.fn n s f⟩))(ae:Nat.blt j s=true)(aa:i<n):
 bV false P fn c fr H ⟨d,.load t x,ty,pos,after,g⟩ (f i j):=G2 bs hu ar aU ae rfl aa
theorem jl {x:Operand}{t:TypeId}{u:TypeDesc}{h j:Nat}{nU:TypeId}{l:List al}{v:al}(bs:P.underlying t=some u)(hu:iP u=false)(ar:bA fr x=some (.ptr h 0 j))(aU:H[h]? =some (some ⟨nU,.box l⟩))(ah:l[j]? =some v):
 bV false P fn c fr H ⟨d,.load t x,ty,pos,after,g⟩ v:=by have ae:j<l.length:=(gL.1 ah).1;exact G2 bs hu ar aU (p5 ae) (by simp [Cells.at,List.getD,ah]) (by simp [Cells.len])
theorem gS {q:Bool}{all:Array Oper}{d:Option Nat}{op:Op}{ty:TypeId}{pos:String}{after:Array Edge}{rest:List Oper}{j t:Nat}{oQ:Bool}{p:Prop}{_:Decidable p}(akC:pS all j=some t)(ak:look t fr=some (.bool (decide p)))(bs:p→ai P fn c (.ops q all (⟨d,op,ty,pos,after,some (j,oQ)⟩::rest) k) ((t,.bool true)::fr) H)(aN: ¬p→ai P fn c (.ops q all (⟨d,op,ty,pos,after,some (j,oQ)⟩::rest) k) ((t,.bool false)::fr) H):ai P fn c (.ops q all (⟨d,op,ty,pos,after,some (j,oQ)⟩::rest) k) fr H:=
 agJ t ak bs aN
theorem GC {op:BinOp}{t:TypeId}{x y:Operand}{a b:Option Addr}{m n lZ C4:Nat}{w:World}:(eqGuard op t x y (.slice a m n) (.slice b lZ C4)).run P w= .ok () w:=by have bT:= ‹bq›;unfold eqGuard;split<;>rfl
theorem Mv {all:Array Oper}{d:Nat}{x y:Operand}{t cr e:TypeId}{ty:TypeId}{pos:String}{after:Array Edge}{rest:List Oper}{dG:Cells}{i n:Nat}(bs:P.underlying t=some (.slice e))(ar:bA fr x=some (.ro dG i n))(aY:bA fr y=some .nil)(h: ∀b:Bool,(b=true→n=0)→ai P fn c (.ops false all rest k) ((d,.bool b)::fr) H):ai P fn c (.ops false all (⟨some d,.binOp .eql t x y cr,ty,pos,after,none⟩::rest) k) fr H:=by
 intro hd w a σ S ad;obtain ⟨iK,jF⟩:=sI hd;have U:=ad.dN ar;have ab:=ad.dN aY;generalize bw:a.eval x=z at U;generalize lY:a.eval y=ND at ab;have key: ∃b:Bool,(b=true→n=0)∧(execOp a.eval ⟨some d,.binOp .eql t x y cr,ty,pos,after,none⟩).run P w= .ok (.value (.bool b)) w:=by
  cases ab;cases U with
  |jJ _ _ _ iV cap=>
   refine ⟨iV.isNone,fun _=>rfl,?_⟩;have ak:=Lib.run_eql_slice_nil (P:=P) w t e iV 0 cap 0 0 bs;simp only [execOp,bw,lY,Sem.run_bind,GC,Result.andThen_ok,ak];rfl
  |ro _ _ _ _ b o cap val dp hlen av ah gf=>
   refine ⟨false,(fun h=>by cases h),?_⟩;have ak:=Lib.run_eql_slice_nil (P:=P) w t e (some ⟨b,o,none⟩) n cap 0 0 bs;simp only [execOp,bw,lY,Sem.run_bind,GC,Result.andThen_ok,ak];rfl
 obtain ⟨b,ak,ez⟩:=key;refine wpList_step (fun K dn=> ?_);simp only [Region.wanted,fS];unfold Oper.wp;rw [ez];exact dn _ _ (h b ak jF w _ σ S (ad.put (.bool _ _) (iK d I)))
theorem b6.ach {w:World}{a:Act}{σ:Nat→Option bQ}{S:Nat→Prop}{n:Nat}(ad:b6 c w a σ S n fr H){o:bk}(aj:o.c.len=0){t:Nat}(au:look t fr=some .nil):b6 c w a (cN σ H.length .k8) S n ((t,.aA H.length 0 0)::fr) (H++[some o]):=by
 have mV: ∀h B,σ h=some B→cN σ H.length .k8 h=some B:=by
  intro h B cZ;unfold cN;split
  ·rename_i he;rw [he,ad.ad.hG _ (bR _)] at cZ;cases cZ
  ·exact cZ
 have ah: ∀{x v},bp w S σ x v→bp w S (cN σ H.length .k8) x v:=fun h=>h.mono (fun _ h=>h) (fun _ _=>rfl) _ mV;have cS: ∀aL o',(H++[some o])[aL]? =some (some o')→(aL=H.length∧o'=o)∨(aL<H.length∧H[aL]? =some (some o')):=by
  intro aL o' aj;by_cases he:aL<H.length
  ·rw [hQ he] at aj;exact .inr ⟨he,aj⟩
  ·by_cases jG:aL=H.length
   ·subst jG;simp at aj;exact .inl ⟨rfl,aj.symm⟩
   ·have:(H++[some o]).length≤aL:=by simp;omega
    rw [jT this] at aj;cases aj
 have nO: ∀h,h<H.length→cN σ H.length .k8 h=σ h:=fun h au=>by simp [cN,ow au]
 have hk:cN σ H.length .k8 H.length=some .k8:=by simp [cN]
 have ay:b6 c w a (cN σ H.length .k8) S n fr (H++[some o]):=by
  refine ⟨⟨?_,?_,ad.ad.small,fun h au=> ?_⟩,⟨ad.bh.os,ad.bh.output,ad.bh.tape,ad.bh.size,ad.bh.block,ad.bh.hD,ad.bh.e4,fun h aN=>by rw [nO h (ad.bh.iY h aN)];exact ad.bh.fixed h aN,fun h aN=>by have:=ad.bh.iY h aN;simp;omega,?_⟩,ad.defers,ad.size,fun t v au=>⟨(ad.e8 t v au).1,ah (ad.e8 t v au).2⟩⟩
  ·intro aL o' cU;rcases cS aL o' cU with ⟨rfl,rfl⟩|⟨bC,cU⟩
   ·exact .inl ⟨hk,aj⟩
   ·rcases ad.ad.live aL o' cU with ⟨aF,iZ⟩|⟨b',cF,iu,g1,g2,g3,g4,g5,g6,g7⟩
    ·exact .inl ⟨mV _ _ aF,iZ⟩
    ·right;refine ⟨b',cF,iu,mV _ _ g1,g2.mono I ah,g3,g4,g5,g6,fun i j aa ae=> ?_⟩;obtain ⟨v,aD,aE,bM⟩:=g7 i j aa ae;exact ⟨v,aD,ah aE,bM⟩
  ·intro U ab o1 o2 b s1 gl s2 fY bO bW aD aE;rcases cS U o1 bO with ⟨rfl,rfl⟩|⟨gh,AD⟩
   ·rw [hk] at aD;cases aD
   ·rcases cS ab o2 bW with ⟨rfl,rfl⟩|⟨fB,AE⟩
    ·rw [hk] at aE;cases aE
    ·rw [nO U gh] at aD;rw [nO ab fB] at aE;exact ad.ad.hi U ab o1 o2 b s1 gl s2 fY AD AE aD aE
  ·simp only [c2,fZ,kd] at au;have: ¬h=H.length:=J;simp only [cN,this,gW];exact ad.ad.hG h J
  ·intro aL o' b s C aj ak;rcases cS aL o' aj with ⟨rfl,rfl⟩|⟨bC,cU⟩
   ·rw [hk] at ak;cases ak
   ·rw [nO aL bC] at ak;exact ad.bh.own aL o' b s C cU ak
 refine ⟨ay.ad,ay.bh,ay.defers,ay.size,fun u y aY=> ?_⟩;simp only [look] at aY;by_cases he:u=t
 ·subst he;simp only [ou,kZ,dy] at aY;subst aY;obtain ⟨U,ab⟩:=ad.e8 u _ au;refine ⟨U,?_⟩;generalize a.tmps.getD u undef=z at ab;cases ab;exact .hW _ _ hk
 ·simp only [db he,nA] at aY;exact ay.e8 u y aY
theorem kM {x:Code}(t:Nat)(o:bk)(au:look t fr=some .nil)(aj:o.c.len=0)(h:ai P fn c (.code x k) ((t,.aA H.length 0 0)::fr) (H++[some o])):ai P fn c (.code x k) fr H:=
 fun w a _ S ad=>h w a _ S (ad.ach aj au)
def ny (Xp:Nat):Option al→Option Int
 |none=>some Xp
 |some (.int _ n)=>some n
 |some _=>none
def mS (fr:Fr):Option Operand→Option (Option al)
 |none=>some none
 |some x=>match bA fr x with
  |some v=>some (some v)
  |none=>none
theorem GI {w:World}{x:Value}{k:IntKind}{m:Int}{y:Nat}{code:BoundsCode}(ar:x= .int k m)(ak:0≤m∧m≤y):(Instr.sliceBound x y code).run P w= .ok m.toNat w:=by have bT:= ‹bq›;subst ar;simp [Instr.sliceBound,asIntOf,ak]
theorem AN {a:Act}{dA w:World}{σ:Nat→Option bQ}{S:Nat→Prop}{n:Nat}(ad:b6 c dA a σ S n fr H){ja aa:Option Operand}{nc aP:Option al}{len cap:Nat}{l h:Int}{Aq:Bool}(U:mS fr ja=some nc)(ab:mS fr aa=some aP)(aw:ny 0 nc=some l)(bg:ny len aP=some h)(ak:0≤l∧l≤h∧h≤cap):
 (Instr.sliceBounds Aq len cap (ja.map a.eval) (aa.map a.eval) none).run P w= .ok (l.toNat,h.toNat,cap) w:=by
 have aD: ∀(x:Operand),ja=some x→ ∃k,a.eval x= .int k l:=by
  rintro x rfl;simp only [mS] at U;cases ar:bA fr x with
  |none=>simp [ar] at U
  |some v=>
   simp only [ar,dy] at U;subst U;cases v<;>simp [ny] at aw;subst aw;exact ⟨_,ad.eZ ar⟩
 have aE: ∀(x:Operand),aa=some x→ ∃k,a.eval x= .int k h:=by
  rintro x rfl;simp only [mS] at ab;cases ar:bA fr x with
  |none=>simp [ar] at ab
  |some v=>
   simp only [ar,dy] at ab;subst ab;cases v<;>simp [ny] at bg;subst bg;exact ⟨_,ad.eZ ar⟩
 have aU:((h.toNat:Nat):Int)=h:=J;cases ja with
 |none=>
  simp only [mS,dy] at U;subst U;simp only [ny,dy] at aw;cases aa with
  |none=>
   simp only [mS,dy] at ab;subst ab;simp only [ny,dy] at bg;subst aw bg;simp [Instr.sliceBounds]
  |some x=>
   obtain ⟨k,ar⟩:=aE x rfl;subst aw;simp only [Instr.sliceBounds,rW,Option.map_none,Sem.run_bind,Sem.run_pure,Result.andThen_ok,GI (P:=P) ar ⟨J,ak.2.2⟩];rfl
 |some y=>
  obtain ⟨cP,aY⟩:=aD y rfl;cases aa with
  |none=>
   simp only [mS,dy] at ab;subst ab;simp only [ny,dy] at bg;subst bg;simp only [Instr.sliceBounds,rW,Option.map_none,Sem.run_bind,Sem.run_pure,Result.andThen_ok,GI (P:=P) aY ⟨ak.1,ak.2.1⟩];simp
  |some x=>
   obtain ⟨k,ar⟩:=aE x rfl;simp only [Instr.sliceBounds,rW,Sem.run_bind,Sem.run_pure,Result.andThen_ok,GI (P:=P) ar ⟨J,ak.2.2⟩];simp only [GI (P:=P) (w:=w) aY (y:=h.toNat) ⟨ak.1,J⟩,Result.andThen_ok]
theorem LL {x:Operand}{t e:TypeId}{ja aa:Option Operand}{nc aP:Option al}{dG:Cells}{i n:Nat}{l h:Int}(bs:P.underlying t=some (.slice e))(ax:(P.info? e).map (·.size)=some dG.aC)(ar:bA fr x=some (.ro dG i n))(U:mS fr ja=some nc)(ab:mS fr aa=some aP)(aw:ny 0 nc=some l)(bg:ny n aP=some h)(ak:0≤l∧l≤h∧h≤n):
 bV ind P fn c fr H ⟨d,.slice t x ja aa none,ty,pos,after,g⟩ (.ro dG (i+l.toNat) (h-l).toNat):=by
 intro w a σ S ad;have wA:=ad.dN ar;generalize bw:a.eval x=z at wA;have iw:h.toNat-l.toNat=(h-l).toNat:=J;cases wA with
 |jJ _ _ _ iV cap=>
  have aF:h=0:=J;have au:l=0:=J;subst aF au;refine ⟨.slice (if cap=0 then iV else iV.map (·.add 0)) 0 cap,.jJ _ _ _ _ _,fun w' _=> ?_⟩;have te:=AN (P:=P) (w:=w') (Aq:=true) (cap:=cap) ad U ab aw bg ⟨J,J,J⟩;cases aB:P.info? e with
  |none=>simp [aB] at ax
  |some inf=>
   simp [execOp,bw,Instr.sliceAt,Instr.slice,run_underlying bs,te,sizeOf,typeInfo,aB]
 |ro _ _ _ _ b o cap val dp hlen av ah gf=>
  have nL: ∀w',(execOp a.eval ⟨d,.slice t x ja aa none,ty,pos,after,g⟩).run P w'= .ok (.value (.slice (if cap=l.toNat then some ⟨b,o,none⟩ else some ⟨b,o+l.toNat*dG.aC,none⟩) (h-l).toNat (cap-l.toNat))) w':=by
   intro w';have te:=AN (P:=P) (w:=w') (Aq:=true) (cap:=cap) ad U ab aw bg ⟨J,J,J⟩;cases aB:P.info? e with
   |none=>simp [aB] at ax
   |some inf=>
    have cq:inf.size=dG.aC:=by simpa [aB] using ax
    simp [execOp,bw,Instr.sliceAt,Instr.slice,run_underlying bs,te,sizeOf,typeInfo,aB,iw,cq,Addr.add_lit]
  refine ⟨_,?_,fun w' _=>nL w'⟩;by_cases aO:(h-l).toNat=0
  ·rw [aO];exact .jJ _ _ _ _ _
  ·have b2: ¬cap=l.toNat:=J;rw [az b2];refine .ro _ _ _ _ _ _ _ (fun d j=>val (l.toNat+d) j) dp J (fun d j hd ae=> ?_) (fun d j hd ae=> ?_) (fun d j hd ae=> ?_)
   ·have:=av (l.toNat+d) j J ae;rw [ef,←kC] at this;exact this
   ·have:=ah (l.toNat+d) j J ae;rw [←kC] at this;exact this
   ·exact gf (l.toNat+d) j J ae
theorem aiy {x:Operand}{t e:TypeId}{ja aa:Option Operand}{nc aP:Option al}{aL i n:Nat}{bc:bk}{l h:Int}(bs:P.underlying t=some (.slice e))(ar:bA fr x=some (.aA aL i n))(aU:H[aL]? =some (some bc))(ax:(P.info? e).map (·.size)=some bc.c.aC)(U:mS fr ja=some nc)(ab:mS fr aa=some aP)(aw:ny 0 nc=some l)(bg:ny n aP=some h)(ak:0≤l∧l<h∧h≤n):
 bV ind P fn c fr H ⟨d,.slice t x ja aa none,ty,pos,after,g⟩ (.aA aL (i+l.toNat) (h-l).toNat):=by
 intro w a σ S ad;have wA:=ad.dN ar;generalize bw:a.eval x=z at wA;have iw:h.toNat-l.toNat=(h-l).toNat:=J;cases wA with
 |hW=>omega
 |aA _ _ _ _ b s C cap bG hlen jE=>
  obtain ⟨gA,cur,g1,g2,g3,g4,g5,g6⟩:=ad.obj aU bG;subst gA;have b2: ¬cap=l.toNat:=J;refine ⟨.slice (some ⟨b,(i+l.toNat)*bc.c.aC,none⟩) (h-l).toNat (cap-l.toNat),.aA _ _ _ _ _ _ C _ bG J J,fun w' _=> ?_⟩;have te:=AN (P:=P) (w:=w') (Aq:=true) (cap:=cap) ad U ab aw bg ⟨J,J,J⟩;cases aB:P.info? e with
  |none=>simp [aB] at ax
  |some inf=>
   have cq:inf.size=bc.c.aC:=by simpa [aB] using ax
   simp [execOp,bw,Instr.sliceAt,Instr.slice,run_underlying bs,te,sizeOf,typeInfo,aB,iw,cq,Addr.add_lit,b2,ef]
end
end Go.ai
namespace Go.ai
variable [bq]
open Go.RowKit
section
variable {ind:Bool}{P:Program}{fn:Func}{c:Ctx}{fr:Fr}{H:aX}{k:List eh}
theorem b6.dropLast {w:World}{a:Act}{σ:Nat→Option bQ}{S:Nat→Prop}{n:Nat}{x:Option bk}(ad:b6 c w a σ S n fr (H++[x]))(kj: ¬c.fix H.length):
 b6 c w a (fun h=>if h=H.length then none else σ h) S n (np H.length fr) (cQ H.length H):=by
 have b2: ∀h,h≠H.length→(fun h=>if h=H.length then none else σ h) h=σ h:=fun h he=>by simp [he]
 have ri: ∀{x v},bp w S σ x v→bp w S (fun h=>if h=H.length then none else σ h) (x.forget H.length) v:=fun ah=>ah.forget _ b2;have nL: ∀h o,(cQ H.length H)[h]? =some (some o)→ ∃c5,h<H.length∧(H++[x])[h]? =some (some c5)∧o=⟨c5.ty,c5.c.forget H.length⟩:=by
  intro h o aj;rw [GV] at aj;cases aB:H[h]? with
  |none=>simp [aB] at aj
  |some k9=>cases k9 with
   |none=>simp [aB,iC] at aj
   |some c5=>
    simp [aB,iC] at aj;have bC:h<H.length:=(gL.1 aB).1;exact ⟨c5,bC,by rw [hQ bC];exact aB,aj.symm⟩
 refine ⟨⟨?_,?_,ad.ad.small,fun h au=> ?_⟩,⟨ad.bh.os,ad.bh.output,ad.bh.tape,ad.bh.size,ad.bh.block,ad.bh.hD,ad.bh.e4,fun h aN=> ?_,fun h aN=> ?_,?_⟩,ad.defers,ad.size,fun t v au=> ?_⟩
 ·intro h o aj;obtain ⟨c5,bC,aO,rfl⟩:=nL h o aj;rcases ad.ad.live h c5 aO with ⟨aF,iZ⟩|⟨b,C,cur,g1,g2,g3,g4,g5,g6,g7⟩
  ·exact .inl ⟨by rw [az J];exact aF,by simpa [Cells.xU] using iZ⟩
  ·right;simp only [Cells.xU,Cells.E5];refine ⟨b,C,cur,by rw [az J];exact g1,g2.forget I ri,g3,g4,g5,g6,fun i j aa ae=> ?_⟩;obtain ⟨v,aD,aE,bM⟩:=g7 i j aa ae;exact ⟨v,aD,by rw [Cells.E4 _ c5.c i j ae];exact ri aE,bM⟩
 ·intro U ab o1 o2 b s1 gl s2 fY bO bW aD aE;obtain ⟨cY,gh,Ye,_⟩:=nL U o1 bO;obtain ⟨eT,fB,Yf,_⟩:=nL ab o2 bW;rw [az J] at aD aE;exact ad.ad.hi U ab _ _ b s1 gl s2 fY Ye Yf aD aE
 ·rw [tD] at au;by_cases he:h=H.length
  ·simp [he]
  ·simp only [he,gW];exact ad.ad.hG h (by simp;omega)
 ·have ab: ¬h=H.length:=fun e=>kj (e▸aN);rw [az ab];exact ad.bh.fixed h aN
 ·have U:=ad.bh.iY h aN;have ab:h≠H.length:=fun e=>kj (e▸aN);rw [tD];simp at U;omega
 ·intro h o b s C aj ak;obtain ⟨c5,bC,aO,rfl⟩:=nL h o aj;rw [az J] at ak;exact ad.bh.own h c5 b s C aO ak
 ·rw [Dv] at au;cases aB:look t fr with
  |none=>simp [aB] at au
  |some v0=>
   simp [aB] at au;subst au;exact ⟨(ad.e8 t v0 aB).1,ri (ad.e8 t v0 aB).2⟩
theorem Bq {x:Code}{H1:aX}{y:Option bk}(lS:H=H1++[y])(kj: ¬c.fix H1.length)(h:ai P fn c (.code x k) (np H1.length fr) (cQ H1.length H1)):ai P fn c (.code x k) fr H:=by subst lS;exact fun w a _ S ad=>h w a _ S (ad.dropLast kj)
end
end Go.ai
namespace Go.ai
theorem sM {α:Type}{l:List α}{k:Nat}(d:α)(h:k<l.length):l.getD k d=l[k]:=by simp [List.getD,h]
theorem mz {α:Type}{l:List α}{k:Nat}(d:α)(h:k<l.length):l.getD k d∈l:=by rw [sM d h];exact List.getElem_mem h
theorem qq {α:Type}(l:List α)(d:α)(k:Nat)(h:k<l.length):l.take (k+1)=l.take k++[l.getD k d]:=by rw [p6 h,sM d h]
theorem Dm {α:Type}(p:α→Bool)(l:List α)(d:α)(k:Nat)(h:k<l.length):(l.take (k+1)).any p=((l.take k).any p||p (l.getD k d)):=by rw [qq l d k h,List.any_append];simp only [List.any_cons,List.any_nil,Bool.or_false]
theorem tL {α:Type}(l:List α)(d:α)(k:Nat)(h:k<l.length):l.drop k=l.getD k d::l.drop (k+1):=by rw [sM d h];exact List.drop_eq_getElem_cons h
variable [bq]
open Go.RowKit
section
variable {P:Program}{fn:Func}{c:Ctx}{fr:Fr}{H:aX}{k:List eh}
variable {all:Array Oper}{d:Nat}{g:Operand}{args:List Operand}{h6:Array TypeId}{ty:TypeId}{pos:String}{after:Array Edge}{rest:List Oper}{f:FuncId}
theorem aZ {cB dM gG:List al}{r:al}(cX:bA fr g=some (.fn f cB))(a1:kD fr args=some dM)(has:dM++cB=gG)(k2:bD P f gG r)(ao:ai P fn c (.ops false all rest k) ((d,r)::fr) H):ai P fn c (.ops false all (⟨some d,.call {callee:= .value g,args:=args.toArray,argTypes:=h6},ty,pos,after,none⟩::rest) k) fr H:=
 Bp cX a1 has (k2 H) (fun _ h=>h) (fun _ h=>h) (fun dk bE h=>by obtain ⟨rfl,rfl⟩:=h;exact ao)
theorem HC {cB dM gG xx:List al}{r:al}(cX:bA fr g=some (.fn f cB))(a1:kD fr args=some dM)(has:dM++cB=gG)(au:al.px H gG=xx)(k2:bD P f xx r)(e6: ∀(h:Nat) (o:bk),H[h]? =some (some o)→eV o.c)(dO:oe H gG)(aF:cV.eR xx=true)(ad:cV r=true)(ha:flat r=true)(ao:ai P fn c (.ops false all rest k) ((d,r)::fr) H):ai P fn c (.ops false all (⟨some d,.call {callee:= .value g,args:=args.toArray,argTypes:=h6},ty,pos,after,none⟩::rest) k) fr H:=
 Bp cX a1 has (bD.KP k2 e6 au dO aF ad ha) (fun _ h=>h) (fun _ h=>h) (fun dk bE h=>by obtain ⟨rfl,rfl⟩:=h;exact ao)
theorem nk {cB dM gG:List al}{r:Nat→al}{o:bk}(cX:bA fr g=some (.fn f cB))(a1:kD fr args=some dM)(has:dM++cB=gG)(k2:za P f gG r o)(ao:ai P fn c (.ops false all rest k) ((d,r H.length)::fr) (H++[some o])):ai P fn c (.ops false all (⟨some d,.call {callee:= .value g,args:=args.toArray,argTypes:=h6},ty,pos,after,none⟩::rest) k) fr H:=
 Bp cX a1 has (k2 H) (fun _ h=>h) (fun _ h=>h) (fun dk bE h=>by obtain ⟨rfl,rfl⟩:=h;exact ao)
theorem rz {cB dM gG:List al}{fix:Nat→Prop}{K:al→aX→Prop}(cX:bA fr g=some (.fn f cB))(a1:kD fr args=some dM)(has:dM++cB=gG)(k2:cg P f gG H fix K)(gP: ∀h,h<H.length→fix h)(ha: ∀h,fix h→h<H.length)(ao: ∀r bE,K r bE→ai P fn c (.ops false all rest k) ((d,r)::fr) bE):ai P fn c (.ops false all (⟨some d,.call {callee:= .value g,args:=args.toArray,argTypes:=h6},ty,pos,after,none⟩::rest) k) fr H:=
 Bp cX a1 has k2 gP ha ao
end
theorem lb {k:IntKind}{l:List Int}:eV (.ints k l):=Rw rfl
theorem agZ {l:List (List UInt8)}:eV (.strs l):=Rw rfl
theorem vH {o1:bk}(U:eV o1.c): ∀(h:Nat) (o:bk),([some o1]:aX)[h]? =some (some o)→eV o.c:=by
 have bT:= ‹bq›;intro h o aj
 match h,aj with
 |0,aj=>simp at aj;subst aj;exact U
 |_+1,aj=>simp at aj
theorem QJ {o1 o2:bk}(U:eV o1.c)(ab:eV o2.c): ∀(h:Nat) (o:bk),([some o1,some o2]:aX)[h]? =some (some o)→eV o.c:=by
 have bT:= ‹bq›;intro h o aj
 match h,aj with
 |0,aj=>simp at aj;subst aj;exact U
 |1,aj=>simp at aj;subst aj;exact ab
 |_+2,aj=>simp at aj
end Go.ai
namespace Go.ai
variable [bq]
open Go.RowKit
def cC (a b:Cells):Prop:=b.len=a.len∧b.bU=a.bU∧ ∀i j,i<a.len→j<a.aC→b.at i j=a.at i j
def aM (H bE:aX):Prop:=bE.length=H.length∧ ∀(h:Nat) (o':bk),bE[h]? =some (some o')→ ∃o:bk,H[h]? =some (some o)∧o'.ty=o.ty∧cC o.c o'.c
theorem cC.refl (a:Cells):cC a a:=have bT:= ‹bq›;⟨rfl,rfl,fun _ _ _ _=>rfl⟩
theorem aM.refl (H:aX):aM H H:=⟨rfl,fun _ o h=>⟨o,h,rfl,cC.refl _⟩⟩
theorem aM.nil:aM [] []:=aM.refl []
theorem aM.cons {x y:Option bk}{H bE:aX}(ar: ∀o',y=some o'→ ∃o,x=some o∧o'.ty=o.ty∧cC o.c o'.c)(h:aM H bE):aM (x::H) (y::bE):=by
 have bT:= ‹bq›;refine ⟨by simp [h.1],fun i o' aj=> ?_⟩;cases i with
 |zero=>
  simp only [List.getElem?_cons_zero,dy] at aj;obtain ⟨o,rfl,U,ab⟩:=ar o' aj;exact ⟨o,bZ,U,ab⟩
 |succ i=>simpa using h.2 i o' (by simpa using aj)
theorem aM.same {x:Option bk}{H bE:aX}(h:aM H bE):aM (x::H) (x::bE):=aM.cons (fun o aj=>⟨o,aj,rfl,cC.refl _⟩) h
theorem aM.eqv {t:TypeId}{a b:Cells}{H bE:aX}(av:cC a b)(h:aM H bE):aM (some ⟨t,a⟩::H) (some ⟨t,b⟩::bE):=
 aM.cons (fun o aj=>by cases aj;exact ⟨_,rfl,rfl,av⟩) h
theorem aM.drop {x:Option bk}{H bE:aX}(h:aM H bE):aM (x::H) (none::bE):=aM.cons (fun o aj=>by cases aj) h
theorem b6.heap {c:Ctx}{w:World}{a:Act}{σ:Nat→Option bQ}{S:Nat→Prop}{n:Nat}{fr:Fr}{H bE:aX}(ad:b6 c w a σ S n fr H)(ax:aM H bE):b6 c w a σ S n fr bE:=by
 refine ⟨⟨fun h o' aj=> ?_,fun h aL o o' b s C cl cF bO bW aD aE=> ?_,ad.ad.small,fun h au=>ad.ad.hG h (by rw [←ax.1];exact au)⟩,⟨ad.bh.os,ad.bh.output,ad.bh.tape,ad.bh.size,ad.bh.block,ad.bh.hD,ad.bh.e4,ad.bh.fixed,fun h aN=>by rw [ax.1];exact ad.bh.iY h aN,fun h o b s C q e=> ?_⟩,ad.defers,ad.size,ad.e8⟩
 ·obtain ⟨o,U,ab,aw,bg,bF⟩:=ax.2 h o' aj;rw [aw,zc bg];rcases ad.ad.live h o U with g|⟨b,C,cur,g1,g2,g3,g4,g5,g6,g7⟩
  ·exact .inl g
  ·exact .inr ⟨b,C,cur,g1,g2.bU ab bg,g3,g4,g5,g6,fun i j aa ae=>by rw [bF i j aa ae];exact g7 i j aa ae⟩
 ·obtain ⟨p,U,_⟩:=ax.2 h o bO;obtain ⟨oQ,gf,_⟩:=ax.2 aL o' bW;exact ad.ad.hi h aL p oQ b s C cl cF U gf aD aE
 ·obtain ⟨p,U,_⟩:=ax.2 h o q;exact ad.bh.own h p b s C U e
section
variable {P:Program}{fn:Func}{c:Ctx}{fr:Fr}{H:aX}{k:List eh}
theorem nn {x:Code}(bE:aX)(ax:aM H bE)(h:ai P fn c (.code x k) fr bE):ai P fn c (.code x k) fr H:=
 fun w a σ S ad=>h w a σ S (ad.heap ax)
theorem fm {q:Bool}{all:Array Oper}{rest:List Oper}(bE:aX)(ax:aM H bE)(h:ai P fn c (.ops q all rest k) fr bE):ai P fn c (.ops q all rest k) fr H:=by
 cases q with
 |true=>exact fun hd w a σ S ad=>h hd w a σ S (ad.heap ax)
 |false=>exact fun hd w a σ S ad=>h hd w a σ S (ad.heap ax)
end
end Go.ai
namespace Go.ai
variable [bq]
open Go.ChangeShapes Go.WideShapes Go.ChangeAt Go.RowKit
section
variable {H:Type}{enc:TypeId×Value→H}{P:Program}{W W':World}
theorem agq (ao: ∀b,b<W.heap.size→W'.heap[b]? =W.heap[b]?)(p:MemPlace)(aJ:p.block<W.heap.size):W.sameAt W' p:=by
 have bT:= ‹bq›;cases p with
 |cell b off=>
  show W'.cell? _=W.cell? _;exact World.cell?_of_block (ao b aJ)
 |map b=>exact ao b aJ
theorem RE {spare:Nat→Bool}{base:Nat}{held:Bool}: ∀{sA:List TypeId} {vs:List Value} {uM:List (DataW H)} {ig:List MemPlace},DataW.TrodAll enc P W base spare held sA vs uM ig→(∀p∈ig,W.sameAt W' p)→DataW.TrodAll enc P W' base spare held sA vs uM ig
 |[],[],[],_,h,_=>have bT:= ‹bq›;h
 |_::_,_::_,_::_,_,⟨p,q,⟨n,U⟩,ab,e⟩,ax=>
  ⟨p,q,⟨n,DataW.trod_carry n _ _ _ U (fun x ar=>ax x (by rw [e];exact ux _ ar))⟩,RE ab (fun x ar=>ax x (by rw [e];exact List.mem_append_right _ ar)),e⟩
theorem agn (aj:W'.os=W.os)(aJ:W'.output=W.output)(ao: ∀b,b<W.heap.size→W'.heap[b]? =W.heap[b]?)(may:MemPlace→Prop):W.keptBut W' may:=by
 have bT:= ‹bq›;refine ⟨aj,aJ,fun i aa=> ?_⟩;rw [ao i aa];split
 ·rename_i U ab;rw [U] at ab;cases ab;exact ⟨rfl,rfl,rfl,fun _ _=>rfl⟩
 ·rename_i U ab;rw [U] at ab;cases ab;exact .inr ⟨rfl,rfl⟩
 ·rfl
theorem ajV {f:Func}{s:ChangeSpec}{t:TypeId}{apart fresh handsOn:Bool}{args:Array Value}{uM gs:List (DataW H)}{before:List MemPlace}(jY:DataW.Whole enc P f.params.toList s.vars apart W args.toList uM gs before)(ah:s.vars=[])(ax:s.fn H uM={results:=[.lit (.bool true)],args:=uM,vars:=[]})(ad:f.resultTypes= #[t])(bs:P.underlying t=some .bool)(au:laidOutB P=true)(hm:mapsRowed P=true)(bw:((List.range P.types.size).all fun t=>match P.underlying t with|some (.slice e)=>decide (0<P.cellsOf e)|_=>true)=true)(aax:(f.params.toList.all (fun t=>decide (t<P.types.size)))=true)(aj:W'.os=W.os)(aJ:W'.output=W.output)(ao: ∀b,b<W.heap.size→W'.heap[b]? =W.heap[b]?):
 s.post enc P f apart fresh handsOn false W args (.bool true) W':=by
 have bC:=jY.lt;have Jk:=jY;obtain ⟨p,q,iH,qe,FQ,_,_⟩:=jY;rw [ah] at qe;have zZ:gs=[]∧q=[]:=by
  cases gs with
  |nil=>exact ⟨rfl,qe⟩
  |cons g r=>exact qe.elim
 obtain ⟨rfl,rfl⟩:=zZ;simp only [kB] at FQ;subst FQ;have lR:=DataW.TrodAll.respare (spare':=fun b=>decide (b<W.heap.size)) (kids_rows au hm) (slices_full_of P bw) (fun t bs=>by simpa using uy.1 aax t bs) iH (fun x ar=>by simpa using bC x ar);have Yi:=RE (W':=W') lR (fun x ar=>agq ao x (bC x ar));refine ⟨uM,[],before,[],before,[],Jk,?_,?_,?_,agn aj aJ ao _,fun h=>nomatch h⟩
 ·rw [kB,ax,ad];exact trodAll_cons_mk (shut_bool bs _) trodAll_mk0
 ·rw [kB,ax];exact Yi
 ·rw [kB,ax,ah];exact rfl
theorem ajG {f:FuncId}{dM:List al}{args:Array Value}(av:bD P f dM (.bool true))(cq:args.size=dM.length)(ah: ∀i,i<dM.length→bp W (fun b=>b<W.heap.size) (fun _=>none) (dM.getD i .any) (args.getD i undef))(aJ:o7 W (fun b=>b<W.heap.size) (fun _=>none) []):
 Calls P f args W (fun e W'=>e= .returned (.bool true)∧W'.os=W.os∧W'.output=W.output∧ ∀b,b<W.heap.size→W'.heap[b]? =W.heap[b]?):=by
 have ad:kX W (fun b=>b<W.heap.size) (fun _=>none) []:=⟨fun h o aj=>by simp at aj,fun h aL o o' b s C cl cF q=>by simp at q,fun b h=>h,fun _ _=>rfl⟩
 refine Calls.mono ((av []).2 W (fun _=>none) (fun b=>b<W.heap.size) args aJ ad (fun h aU=>aU) ⟨cq,ah⟩) fun e W' he=> ?_;obtain ⟨v,r,bu,bY,bE,rfl,g2,g3,g4,rfl,g6⟩:=he;have:v= .bool true:=by cases g3;rfl
 subst this;refine ⟨I,g4.os,g4.output,fun b ak=>g4.block b ak ?_⟩;rintro ⟨h,o,s,C,q,_⟩;simp at q
end
end Go.ai
namespace Go.ai
variable [bq]
open Go.RowKit
section
variable {ind:Bool}{P:Program}{fn:Func}{c:Ctx}{fr:Fr}{H:aX}{k:List eh}
variable {d:Option Nat}{ty:TypeId}{pos:String}{after:Array Edge}{g:Option (Nat×Bool)}
theorem Li {op:BinOp}{t:TypeId}{x y:Operand}{a b:ByteArray}{w:World}:(eqGuard op t x y (.string a) (.string b)).run P w= .ok () w:=by have bT:= ‹bq›;unfold eqGuard;split<;>rfl
theorem Sc (s:List UInt8):(⟨s.toArray⟩:ByteArray).toList=s:=have bT:= ‹bq›;ByteArray.toList_mk s
theorem D4 {x y:Operand}{t cr:TypeId}{a b:List UInt8}(ar:bA fr x=some (.str a))(aY:bA fr y=some (.str b)):bV ind P fn c fr H ⟨d,.binOp .eql t x y cr,ty,pos,after,g⟩ (.bool (decide (a=b))):=by
 intro w ac σ S ad;refine ⟨_,.bool _ _,fun w' _=> ?_⟩;have U:=ad.uO ar;have ab:=ad.uO aY;have e:(a==b)=decide (a=b):=by rw [s3];simp
 simp [execOp,U,ab,oh,Li,binOp,Op.stringOp,e]
theorem MX {x y:Operand}{t cr:TypeId}{a b:List UInt8}(ar:bA fr x=some (.str a))(aY:bA fr y=some (.str b)):bV ind P fn c fr H ⟨d,.binOp .neq t x y cr,ty,pos,after,g⟩ (.bool (decide (¬a=b))):=by
 intro w ac σ S ad;refine ⟨_,.bool _ _,fun w' _=> ?_⟩;have U:=ad.uO ar;have ab:=ad.uO aY;have e:(a==b)=decide (a=b):=by rw [s3];simp
 simp [execOp,U,ab,oh,Li,binOp,Op.stringOp,e]
theorem yQ {x y:Operand}{t cr:TypeId}{a b:List UInt8}(ar:bA fr x=some (.str a))(aY:bA fr y=some (.str b))(ak:a.length+b.length≤9223372036854775807):bV ind P fn c fr H ⟨d,.binOp .add t x y cr,ty,pos,after,g⟩ (.str (a++b)):=by
 intro w ac σ S ad;refine ⟨_,.str _ _,fun w' _=> ?_⟩;have U:=ad.uO ar;have ab:=ad.uO aY;have aD:(⟨a.toArray⟩:ByteArray).size=a.length:=D9 a;have aE:(⟨b.toArray⟩:ByteArray).size=b.length:=D9 b;have bM:(⟨a.toArray⟩++⟨b.toArray⟩:ByteArray)=⟨(a++b).toArray⟩:=by apply WideShapes.bytes_inj;simp
 have h9: ¬((IntKind.i64.max)<((a.length+b.length:Nat):Int)):=by have:IntKind.i64.max=9223372036854775807:=a6;rw [this];omega
 have EZ: ¬(IntKind.i64.max<(a.length:Int)+(b.length:Int)):=by simpa using h9
 simp [execOp,U,ab,oh,Li,binOp,Op.stringOp,aD,aE,bM];omega
theorem T3 {x i:Operand}{t:TypeId}{s:List UInt8}{dY:IntKind}{m:Int}(bs:P.underlying t=some .string)(ar:bA fr x=some (.str s))(aa:bA fr i=some (.int dY m))(ak:0≤m∧m<s.length):
 bV ind P fn c fr H ⟨d,.index t x i,ty,pos,after,g⟩ (.int .u8 ((s.getD m.toNat 0).toNat:Nat)):=by
 intro w ac σ S ad;refine ⟨_,.int _ _ _,fun w' _=> ?_⟩;have U:=ad.uO ar;have ab:=ad.eZ aa;have bC:m.toNat<s.length:=J;have e:(⟨s.toArray⟩:ByteArray)[m.toNat]? =some (s.getD m.toNat 0):=by
  have cq:(⟨s.toArray⟩:ByteArray).size=s.length:=D9 s;have:m.toNat<(⟨s.toArray⟩:ByteArray).size:=by rw [cq];exact bC
  rw [getElem?_pos (⟨s.toArray⟩:ByteArray) m.toNat this];congr 1;show s.toArray[m.toNat]=_;simp [List.getD,bC]
 simp [execOp,U,ab,oh,Instr.index,asIntOf,run_underlying bs,ak.1,e]
theorem agC {a:Act}{dA w:World}{σ:Nat→Option bQ}{S:Nat→Prop}{n:Nat}(ad:b6 c dA a σ S n fr H){ja aa:Option Operand}{nc aP:Option al}{len:Nat}{l h:Int}(U:mS fr ja=some nc)(ab:mS fr aa=some aP)(aw:ny 0 nc=some l)(bg:ny len aP=some h)(ak:0≤l∧l≤h∧h≤len):
 (Instr.sliceBounds false len len (ja.map a.eval) (aa.map a.eval) none).run P w= .ok (l.toNat,h.toNat,len) w:=
 AN ad U ab aw bg ⟨ak.1,ak.2.1,ak.2.2⟩
theorem AU {x:Operand}{t:TypeId}{ja aa:Option Operand}{nc aP:Option al}{s:List UInt8}{l h:Int}(bs:P.underlying t=some .string)(ar:bA fr x=some (.str s))(U:mS fr ja=some nc)(ab:mS fr aa=some aP)(aw:ny 0 nc=some l)(bg:ny s.length aP=some h)(ak:0≤l∧l≤h∧h≤s.length):
 bV ind P fn c fr H ⟨d,.slice t x ja aa none,ty,pos,after,g⟩ (.str ((s.drop l.toNat).take (h.toNat-l.toNat))):=by
 intro w ac σ S ad;refine ⟨_,.str _ _,fun w' _=> ?_⟩;have aD:=ad.uO ar;have cq:(⟨s.toArray⟩:ByteArray).size=s.length:=D9 s;have aE:=agC (P:=P) (w:=w') ad U ab aw bg ak;have bM:(⟨s.toArray⟩:ByteArray).extract l.toNat h.toNat=⟨((s.drop l.toNat).take (h.toNat-l.toNat)).toArray⟩:=by apply WideShapes.bytes_inj;rw [Lib.extract_data]
 simp [execOp,Instr.sliceAt,run_underlying bs,aD,oh,Instr.slice,cq,aE,bM]
theorem adq {x y:Operand}{h6:Array TypeId}{eF eG:IntKind}{m n:Int}(ar:bA fr x=some (.int eF m))(aY:bA fr y=some (.int eG n)):
 bV ind P fn c fr H ⟨d,.call {callee:= .builtin .max,args:= #[x,y],argTypes:=h6},ty,pos,after,g⟩ (.int eF (if n>m then n else m)):=by intro w ac σ S ad;refine ⟨_,.int _ _ _,fun w' _=> ?_⟩;simp [execOp,resolve,ad.eZ ar,ad.eZ aY,invoke,builtin,Builtin.max_,Builtin.max2]
theorem QF {x y:Operand}{h6:Array TypeId}{eF eG:IntKind}{m n:Int}(ar:bA fr x=some (.int eF m))(aY:bA fr y=some (.int eG n)):
 bV ind P fn c fr H ⟨d,.call {callee:= .builtin .min,args:= #[x,y],argTypes:=h6},ty,pos,after,g⟩ (.int eF (if n<m then n else m)):=by intro w ac σ S ad;refine ⟨_,.int _ _ _,fun w' _=> ?_⟩;simp [execOp,resolve,ad.eZ ar,ad.eZ aY,invoke,builtin,Builtin.min_,Builtin.min2]
theorem Hx {f:FuncId}{cB:List Operand}{l:List al}(au:kD fr cB=some l):
 bV ind P fn c fr H ⟨d,.makeFunc (.func f) #[] cB.toArray,ty,pos,after,g⟩ (.fn f l):=by
 intro w ac σ S ad;obtain ⟨aD,aE⟩:=DW ad cB l au;refine ⟨.func (.func f) #[] (cB.map ac.eval).toArray,.fn _ _ _ _ (by simp [aD]) (fun i aa=> ?_),fun w' _=> ?_⟩
 ·have:=aE i aa;have bC:i<cB.length:=J;have e:(cB.map ac.eval).toArray.getD i undef=(cB.map ac.eval).getD i undef:=by simp [List.getD,bC]
  rw [e];exact this
 ·simp [execOp,Instr.makeFunc]
theorem pN {x:Operand}{t:TypeId}{u:TypeDesc}{l:List al}{i j:Nat}{v:al}(bs:P.underlying t=some u)(hu:iP u=false)(ar:bA fr x=some (.de (.box l) i j))(ah:l[j]? =some v):
 bV false P fn c fr H ⟨d,.load t x,ty,pos,after,g⟩ v:=
 Hp bs hu ar (p5 (gL.1 ah).1) (by simp [Cells.at,List.getD,ah])
theorem SV {w:World}{S:Nat→Prop}{σ:Nat→Option bQ}{cs:Array Value}{L:List al}(h:p1 w S σ cs L): ∀i j,i<(Cells.box L).len→j<(Cells.box L).aC→ ∃v,cs[i*(Cells.box L).aC+j]? =some v∧bp w S σ ((Cells.box L).at i j) v∧v.oneCell'=true:=by
 have bT:= ‹bq›;intro i j aa ae;simp only [Cells.len,Cells.aC] at aa ae;have:i=0:=J;subst this;obtain ⟨U,ab⟩:=h.2 j ae;have bC:j<cs.size:=by rw [h.1];exact ae
 exact ⟨cs.getD j undef,by simp [bC],U,ab⟩
theorem ua {all:Array Oper}{d:Nat}{t:TypeId}{x:Operand}{ty:TypeId}{pos:String}{after:Array Edge}{rest:List Oper}{v:al}{L:List al}(ar:bA fr x=some v)(av:v.uI=some L)(ao:ai P fn c (.ops false all rest k) ((d,.ptr H.length 0 0)::fr) (H++[some ⟨t,.box L⟩])):ai P fn c (.ops false all (⟨some d,.box t x,ty,pos,after,none⟩::rest) k) fr H:=by
 refine uG (fun w a σ S ad=> ?_) ao;have U:=ad.dN ar;have a1:=SS U av;have ez:(execOp a.eval ⟨some d,.box t x,ty,pos,after,none⟩).run P w= .ok (.value (.pointer (some ⟨w.heap.size,0,none⟩))) (w.alloc (.cells (a.eval x).cells t (0,0))):=by simp [execOp,Instr.box,newVar,newRow]
 refine ⟨_,_,_,S,ez,ad.alloc (o:=⟨t,.box L⟩) (C:=1) (cur:=(a.eval x).cells) (bR _) (by unfold maxLen;omega) (by simp [Cells.aC,a1.1]) (SV a1),?_⟩;have:=bp.ptr (w:=w.alloc (.cells (a.eval x).cells t (0,0))) (S:=S) (cN σ H.length (.at w.heap.size (Cells.box L).aC 1)) H.length 0 0 w.heap.size (Cells.box L).aC 1 (by simp [cN]);simpa using this
theorem my {all:Array Oper}{d:Nat}{t:TypeId}{ty:TypeId}{pos:String}{after:Array Edge}{rest:List Oper}{inf:TypeInfo}{z:Value}{zs:List al}(aa:P.info? t=some inf)(bw:inf.zero=some z)(nR:uk z=some zs)(ao:ai P fn c (.ops false all rest k) ((d,.ptr H.length 0 0)::fr) (H++[some ⟨t,.box zs⟩])):ai P fn c (.ops false all (⟨some d,.alloc t,ty,pos,after,none⟩::rest) k) fr H:=by
 refine uG (fun w a σ S ad=> ?_) ao;have a1:p1 w S σ z.cells zs:=DR nR;have ez:(execOp a.eval ⟨some d,.alloc t,ty,pos,after,none⟩).run P w= .ok (.value (.pointer (some ⟨w.heap.size,0,none⟩))) (w.alloc (.cells z.cells t (0,0))):=by simp [execOp,Instr.alloc,newVar,newRow,zeroValue,typeInfo,aa,bw]
 refine ⟨_,_,_,S,ez,ad.alloc (o:=⟨t,.box zs⟩) (C:=1) (cur:=z.cells) (bR _) (by unfold maxLen;omega) (by simp [Cells.aC,a1.1]) (SV a1),?_⟩;have:=bp.ptr (w:=w.alloc (.cells z.cells t (0,0))) (S:=S) (cN σ H.length (.at w.heap.size (Cells.box zs).aC 1)) H.length 0 0 w.heap.size (Cells.box zs).aC 1 (by simp [cN]);simpa using this
end
def Ik (a b:Cells):Prop:=b.len≤a.len∧b.bU=a.bU∧ ∀i j,i<b.len→j<a.aC→b.at i j=a.at i j
theorem b6.K9 {c:Ctx}{w:World}{a:Act}{σ:Nat→Option bQ}{S:Nat→Prop}{n:Nat}{fr:Fr}{H:aX}(ad:b6 c w a σ S n fr H){h:Nat}{o:bk}(aU:H[h]? =some (some o)){c':Cells}(bs:Ik o.c c'):b6 c w a σ S n fr (H.set h (some ⟨o.ty,c'⟩)):=by
 obtain ⟨t1,t2,t3⟩:=bs;have bC:h<H.length:=(gL.1 aU).1;have cS: ∀(aL:Nat) (o':bk),(H.set h (some ⟨o.ty,c'⟩))[aL]? =some (some o')→ ∃c5:bk,H[aL]? =some (some c5)∧o'.ty=c5.ty∧Ik c5.c o'.c:=by
  intro aL o' aj;by_cases he:aL=h
  ·subst he;simp only [nB bC,dy] at aj;subst aj;exact ⟨o,aU,I,t1,t2,t3⟩
  ·rw [k0 (p4 he)] at aj;exact ⟨o',aj,I,bR _,I,fun _ _ _ _=>rfl⟩
 refine ⟨⟨fun aL o' aj=> ?_,fun U ab o1 o2 b s C cl cF bO bW aD aE=> ?_,ad.ad.small,fun aL au=>ad.ad.hG aL (by simpa using au)⟩,⟨ad.bh.os,ad.bh.output,ad.bh.tape,ad.bh.size,ad.bh.block,ad.bh.hD,ad.bh.e4,ad.bh.fixed,fun aL aN=>by simpa using ad.bh.iY aL aN,fun aL o' b s C q e=> ?_⟩,ad.defers,ad.size,ad.e8⟩
 ·obtain ⟨c5,U,ab,aw,bg,bF⟩:=cS aL o' aj;rw [zc bg];rcases ad.ad.live aL c5 U with g|⟨b,C,cur,g1,g2,g3,g4,g5,g6,g7⟩
  ·exact .inl ⟨g.1,by have:=g.2;omega⟩
  ·exact .inr ⟨b,C,cur,g1,g2.bU ab bg,g3,g4,J,g6,fun i j aa ae=>by rw [bF i j aa ae];exact g7 i j J ae⟩
 ·obtain ⟨p,cY,_⟩:=cS U o1 bO;obtain ⟨oQ,yq,_⟩:=cS ab o2 bW;exact ad.ad.hi U ab p oQ b s C cl cF cY yq aD aE
 ·obtain ⟨p,cY,_⟩:=cS aL o' q;exact ad.bh.own aL p b s C cY e
section
variable {P:Program}{fn:Func}{c:Ctx}{fr:Fr}{H:aX}{k:List eh}
theorem HE {x:Code}(h:Nat){o:bk}(c':Cells)(aU:H[h]? =some (some o))(bs:Ik o.c c')(ao:ai P fn c (.code x k) fr (H.set h (some ⟨o.ty,c'⟩))):ai P fn c (.code x k) fr H:=
 fun w a σ S ad=>ao w a σ S (ad.K9 aU bs)
theorem agL {q:Bool}{all:Array Oper}{rest:List Oper}(h:Nat){o:bk}(c':Cells)(aU:H[h]? =some (some o))(bs:Ik o.c c')(ao:ai P fn c (.ops q all rest k) fr (H.set h (some ⟨o.ty,c'⟩))):ai P fn c (.ops q all rest k) fr H:=by
 cases q with
 |true=>exact fun hd w a σ S ad=>ao hd w a σ S (ad.K9 aU bs)
 |false=>exact fun hd w a σ S ad=>ao hd w a σ S (ad.K9 aU bs)
end
def aV (x y:al):Prop:= ∀(w:World) (S:Nat→Prop) (σ:Nat→Option bQ) (v:Value),bp w S σ x v→bp w S σ y v
theorem aV.ro {c c':Cells}{i aI n:Nat}(ax:c'.aC=c.aC)(h: ∀d j,d<n→j<c.aC→c'.at (aI+d) j=c.at (i+d) j):aV (.ro c i n) (.ro c' aI n):=by
 have bT:= ‹bq›;intro w S σ v ah;cases ah with
 |jJ=>exact .jJ _ _ _ _ _
 |ro _ _ _ _ b o cap val dp hlen av ah U=>
  refine .ro _ _ _ _ b o cap val dp hlen (fun d j hd ae=> ?_) (fun d j hd ae=> ?_) (fun d j hd ae=>U d j hd (by rwa [ax] at ae))
  ·rw [ax] at ae⊢;exact av d j hd ae
  ·rw [ax] at ae;rw [h d j hd ae];exact ah d j hd ae
theorem aV.of_eq {x y:al}(h:x=y):aV x y:=have bT:= ‹bq›;fun _ _ _ _ ah=>h▸ah
theorem aV.Gs {x:al}:aV x x:=have bT:= ‹bq›;fun _ _ _ _ ah=>ah
theorem aV.trans {x y z:al}(h:aV x y)(aL:aV y z):aV x z:=have bT:= ‹bq›;fun _ _ _ _ ah=>aL _ _ _ _ (h _ _ _ _ ah)
theorem aV.adU {c c':Cells}{i aI n:Nat}(ax:c'.aC=c.aC)(h: ∀d j,d<n→j<c.aC→aV (c.at (i+d) j) (c'.at (aI+d) j)):aV (.ro c i n) (.ro c' aI n):=by
 have bT:= ‹bq›;intro w S σ v ah;cases ah with
 |jJ=>exact .jJ _ _ _ _ _
 |ro _ _ _ _ b o cap val dp hlen av ah U=>
  refine .ro _ _ _ _ b o cap val dp hlen (fun d j hd ae=> ?_) (fun d j hd ae=> ?_) (fun d j hd ae=>U d j hd (by rwa [ax] at ae))
  ·rw [ax] at ae⊢;exact av d j hd ae
  ·rw [ax] at ae;exact h d j hd ae _ _ _ _ (ah d j hd ae)
theorem aV.take {k:IntKind}{l:List Int}{n:Nat}:aV (.ro (.ints k l) 0 n) (.ro (.ints k (l.take n)) 0 n):=
 aV.ro rfl (fun d j hd _=>by simp only [Cells.at,c1,List.getD,pj,hd,fS])
theorem aV.drop {k:IntKind}{l:List Int}{i n:Nat}:aV (.ro (.ints k l) i n) (.ro (.ints k (l.drop i)) 0 n):=
 aV.ro rfl (fun d j hd _=>by simp only [Cells.at,c1,List.getD,List.getElem?_drop])
theorem aV.nil {c:Cells}{i:Nat}:aV .nil (.ro c i 0):=by have bT:= ‹bq›;intro w S σ v ah;cases ah;exact .jJ _ _ _ _ _
theorem b6.slot {c:Ctx}{w:World}{a:Act}{σ:Nat→Option bQ}{S:Nat→Prop}{n t:Nat}{fr:Fr}{H:aX}{x y:al}(ad:b6 c w a σ S n fr H)(au:look t fr=some x)(h:aV x y):b6 c w a σ S n ((t,y)::fr) H:=by
 refine ⟨ad.ad,ad.bh,ad.defers,ad.size,fun u v hu=> ?_⟩;simp only [look] at hu;by_cases he:u=t
 ·subst he;simp only [ou,kZ,dy] at hu;subst hu;exact ⟨(ad.e8 u x au).1,h _ _ _ _ (ad.e8 u x au).2⟩
 ·simp only [db he,nA] at hu;exact ad.e8 u v hu
section
variable {P:Program}{fn:Func}{c:Ctx}{fr:Fr}{H:aX}{k:List eh}
theorem eA {x:Code}(t:Nat){v:al}(y:al)(au:look t fr=some v)(h:aV v y)(ao:ai P fn c (.code x k) ((t,y)::fr) H):ai P fn c (.code x k) fr H:=
 fun w a σ S ad=>ao w a σ S (ad.slot au h)
theorem bP {q:Bool}{all:Array Oper}{rest:List Oper}(t:Nat){v:al}(y:al)(au:look t fr=some v)(h:aV v y)(ao:ai P fn c (.ops q all rest k) ((t,y)::fr) H):ai P fn c (.ops q all rest k) fr H:=by
 cases q with
 |true=>exact fun hd w a σ S ad=>ao hd w a σ S (ad.slot au h)
 |false=>exact fun hd w a σ S ad=>ao hd w a σ S (ad.slot au h)
end
theorem bD.Gk {P:Program}{f:FuncId}{args:List al}{r:al}(aN: ∃fn,P.funcs[f]? =some fn∧(fn.name== "runtime.NumGoroutine")=false∧fn.body.isNone=false)(aF:cV.eR args=true)(ad:cV r=true)(h: ∀(w:World) (S:Nat→Prop) (ds:Array Value),bq.G w S→(∀b,S b→b<w.heap.size)→om w S (fun _=>none) args ds→
  Calls P f ds w (fun e w'=> ∃v,e= .returned v∧Below w.heap.size w w'∧bp w' (fun b=>S b∨(w.heap.size≤b∧b<w'.heap.size)) (fun _=>none) r v)):bD P f args r:=by
 intro H;refine ⟨aN,fun w σ S ds aJ jI kj ah=> ?_⟩;refine (h w S ds aJ.now jI.small (ah.closed aF _)).mono ?_;rintro e w' ⟨v,rfl,ak,aaG⟩;have hold: ∀b,b<w.heap.size→w'.heap[b]? =w.heap[b]? :=fun b eg=>ak.block b eg;have j0: ∀{lJ:Nat→Option bQ} {x v},bp w S lJ x v→bp w' (fun b=>S b∨(w.heap.size≤b∧b<w'.heap.size)) lJ x v:=fun h=>h.mono (fun _ h=> .inl h) (fun b ax=>hold b (jI.small b ax)) _ (fun _ _ h=>h);refine ⟨v,r,σ,fun b=>S b∨(w.heap.size≤b∧b<w'.heap.size),H,I,⟨fun h o aj=> ?_,jI.hi,fun b ax=> ?_,jI.hG⟩,aaG.closed ad σ,⟨ak.os,ak.output,ak.tape,ak.size,fun b eg _=>hold b eg,fun b ax=> .inl ax,fun b ax=> ?_,fun _ _=>rfl,fun _ au=>au,fun h o b s C U ab=> .inl ⟨h,o,s,C,U,ab⟩⟩,I,I⟩
 ·rcases jI.live h o aj with g|⟨b,C,cur,g1,g2,g3,g4,g5,g6,g7⟩
  ·exact .inl g
  ·have bC:=g2.lt;refine .inr ⟨b,C,cur,g1,g2.mono (hold b bC) j0,g3,g4,g5,?_,fun i j aa ae=> ?_⟩
   ·rintro (ax|ax)
    ·exact g6 ax
    ·omega
   ·obtain ⟨v,aD,aE,bM⟩:=g7 i j aa ae;exact ⟨v,aD,j0 aE,bM⟩
 ·rcases ax with ax|ax
  ·exact hE (jI.small b ax) ak.size
  ·exact ax.2
 ·rcases ax with ax|ax
  ·exact .inl ax
  ·exact .inr (.inr ax.1)
end Go.ai
namespace Go.ai
variable [bq]
open Go.RowKit
section
variable {ind:Bool}{P:Program}{fn:Func}{c:Ctx}{fr:Fr}{H:aX}{k:List eh}
variable {d:Option Nat}{ty:TypeId}{pos:String}{after:Array Edge}{g:Option (Nat×Bool)}
theorem GY {x:Operand}{t e:TypeId}{ja aa:Option Operand}{nc aP:Option al}{aL i n:Nat}{bc:bk}{l h:Int}(bs:P.underlying t=some (.slice e))(ar:bA fr x=some (.aA aL i n))(aU:H[aL]? =some (some bc))(ax:(P.info? e).map (·.size)=some bc.c.aC)(U:mS fr ja=some nc)(ab:mS fr aa=some aP)(aw:ny 0 nc=some l)(bg:ny n aP=some h)(ak:l=0∧0≤h∧h≤n):
 bV ind P fn c fr H ⟨d,.slice t x ja aa none,ty,pos,after,g⟩ (.aA aL i h.toNat):=by
 intro w a σ S ad;have wA:=ad.dN ar;generalize bw:a.eval x=z at wA;obtain ⟨rfl,sk,zQ⟩:=ak;cases wA with
 |hW _ _ bG=>
  have aO:h=0:=J;subst aO;refine ⟨.slice none 0 0,.hW _ _ bG,fun w' _=> ?_⟩;have te:=AN (P:=P) (w:=w') (Aq:=true) (len:=0) (cap:=0) ad U ab aw bg ⟨J,J,J⟩;cases aB:P.info? e with
  |none=>simp [aB] at ax
  |some inf=>simp [execOp,bw,Instr.sliceAt,Instr.slice,run_underlying bs,te,sizeOf,typeInfo,aB]
 |aA _ _ _ _ b s C cap bG hlen jE=>
  obtain ⟨gA,cur,g1,g2,g3,g4,g5,g6⟩:=ad.obj aU bG;subst gA;refine ⟨.slice (some ⟨b,i*bc.c.aC,none⟩) h.toNat cap,.aA _ _ _ _ _ _ C _ bG J J,fun w' _=> ?_⟩;have te:=AN (P:=P) (w:=w') (Aq:=true) (cap:=cap) ad U ab aw bg ⟨J,J,J⟩;cases aB:P.info? e with
  |none=>simp [aB] at ax
  |some inf=>simp [execOp,bw,Instr.sliceAt,Instr.slice,run_underlying bs,te,sizeOf,typeInfo,aB,Addr.add_lit]
end
end Go.ai
