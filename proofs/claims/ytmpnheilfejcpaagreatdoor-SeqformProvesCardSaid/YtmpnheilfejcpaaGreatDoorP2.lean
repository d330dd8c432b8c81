import Derived.WalkKit
import Derived.Deep.Draws
import Derived.Deep.Quiet
import Derived.Scope
import Derived.WalkSpells
import Derived.ProofKit
import Derived.OpenShut
import Derived.ReadAgain
import Derived.ChangeSlices
import Derived.Lib.AppendZeros
import Derived.Lib.Strings
import Derived.Test.YtmpnheilfejcpaaGreatDoorP1
set_option linter.unusedVariables false
set_option linter.unusedSimpArgs false
theorem aH {p:Prop}(h:p:=by repeat (first|refine ⟨rfl,?_⟩|exact trivial)):p:=h
theorem I {α:Sort _}{a:α}:a=a:=rfl
theorem dq {p:Prop}(h:p:=by have e:= ‹_=fun _=>False›;rw [e];exact fun h=>h):p:=h
theorem hO {p:Prop}(h:p:=by intro h aX;have e:= ‹_=fun _=>False›;rw [e] at aX;exact absurd aX id):p:=h
theorem hq {p:Prop}(h:p:=by first|(simp only [Nat.zero_add,Int.toNat_natCast,Int.toNat_zero];exact rfl)|exact rfl):p:=h
theorem eu {p:Prop}(h:p:=by show 0+1≤1;omega):p:=h
theorem ot {p:Prop}(h:p:=by show (List.set _ _ _).length=_;rw [List.length_set];rfl):p:=h
theorem ag {p:Prop}(h:p:=by kernel_rfl):p:=h
theorem J {p:Prop}(h:p:=by omega):p:=h
theorem aT {p:Prop}(h:p:=by decide):p:=h
theorem b1 {p:Prop}(h:p:=by simp):p:=h
theorem h2 {p:Prop}(h:p:=by assumption):p:=h
theorem arv {p:Prop}(h:p:=by exact rfl):p:=h
theorem ll {p:Prop}(h:p:=by rfl):p:=h
theorem nM {p:Prop}(h:p:=by first|assumption|omega):p:=h
theorem Ig {p:Prop}(h:p:=by first|exact Nat.zero_lt_one|assumption|omega):p:=h
theorem aw:type_of% @if_neg:= @if_neg
theorem aB:type_of% @if_pos:= @if_pos
theorem bN:type_of% @Nat.le_refl:= @Nat.le_refl
theorem cj:type_of% @Nat.zero_le:= @Nat.zero_le
theorem cn:type_of% @Int.toNat_natCast:= @Int.toNat_natCast
theorem cR:type_of% @Nat.zero_add:= @Nat.zero_add
theorem cS:type_of% @List.mem_map:= @List.mem_map
theorem cW:type_of% @List.length_map:= @List.length_map
theorem da:type_of% @List.length_set:= @List.length_set
theorem di:type_of% @List.length_append:= @List.length_append
theorem dG:type_of% @Option.some.injEq:= @Option.some.injEq
theorem dU:type_of% @Nat.le_trans:= @Nat.le_trans
theorem er:type_of% @Bool.and_eq_true:= @Bool.and_eq_true
theorem eF:type_of% @Nat.add_mul:= @Nat.add_mul
theorem eG:type_of% @decide_eq_true:= @decide_eq_true
theorem e8:type_of% @decide_eq_true_eq:= @decide_eq_true_eq
theorem fc:type_of% @List.length_replicate:= @List.length_replicate
theorem fg:type_of% @Nat.add_zero:= @Nat.add_zero
theorem fp:type_of% @Nat.mul_le_mul_right:= @Nat.mul_le_mul_right
theorem ft:type_of% @Nat.lt_one_iff:= @Nat.lt_one_iff
theorem fx:type_of% @Nat.zero_lt_one:= @Nat.zero_lt_one
theorem fy:type_of% @List.length_take:= @List.length_take
theorem fJ:type_of% @Int.toNat_zero:= @Int.toNat_zero
theorem fN:type_of% @Nat.pow_le_pow_right:= @Nat.pow_le_pow_right
theorem fO:type_of% @List.take_length:= @List.take_length
theorem fP:type_of% @decide_eq_false:= @decide_eq_false
theorem gb:type_of% @List.mem_cons:= @List.mem_cons
theorem gg:type_of% @if_true:= @if_true
theorem gh:type_of% @Nat.not_lt_zero:= @Nat.not_lt_zero
theorem gu:type_of% @List.length_cons:= @List.length_cons
theorem gA:type_of% @Nat.lt_or_ge:= @Nat.lt_or_ge
theorem gB:type_of% @Int.mul_zero:= @Int.mul_zero
theorem gC:type_of% @Nat.lt_succ_self:= @Nat.lt_succ_self
theorem gM:type_of% @List.mem_append:= @List.mem_append
theorem gN:type_of% @List.length_range:= @List.length_range
theorem gS:type_of% @Nat.mul_add:= @Nat.mul_add
theorem gZ:type_of% @List.getElem?_eq_some_iff:= @List.getElem?_eq_some_iff
theorem ha:type_of% @Nat.lt_of_lt_of_le:= @Nat.lt_of_lt_of_le
theorem hb:type_of% @List.map_append:= @List.map_append
theorem hj:type_of% @Nat.mul_comm:= @Nat.mul_comm
theorem hk:type_of% @List.mem_singleton:= @List.mem_singleton
theorem hA:type_of% @if_false:= @if_false
theorem hK:type_of% @Nat.mul_le_mul_left:= @Nat.mul_le_mul_left
theorem hL:type_of% @Classical.not_not:= @Classical.not_not
theorem hX:type_of% @Nat.min_eq_left:= @Nat.min_eq_left
theorem hY:type_of% @Nat.pow_succ:= @Nat.pow_succ
theorem ic:type_of% @List.getElem?_append_left:= @List.getElem?_append_left
theorem iN:type_of% @Nat.pow_add:= @Nat.pow_add
theorem iZ:type_of% @Nat.le_of_ble_eq_true:= @Nat.le_of_ble_eq_true
theorem jE:type_of% @Int.zero_mul:= @Int.zero_mul
theorem jU:type_of% @Nat.add_assoc:= @Nat.add_assoc
theorem jV:type_of% @List.getElem?_append_right:= @List.getElem?_append_right
theorem jW:type_of% @Nat.mul_le_mul:= @Nat.mul_le_mul
theorem jX:type_of% @Rat.add_zero:= @Rat.add_zero
theorem kc:type_of% @List.ext_getElem:= @List.ext_getElem
theorem kd:type_of% @List.take_of_length_le:= @List.take_of_length_le
theorem ke:type_of% @Int.natAbs_mul:= @Int.natAbs_mul
theorem kD:type_of% @List.getElem?_eq_none:= @List.getElem?_eq_none
theorem kE:type_of% @List.getElem_of_mem:= @List.getElem_of_mem
theorem kF:type_of% @Nat.mul_assoc:= @Nat.mul_assoc
theorem kG:type_of% @Int.mul_assoc:= @Int.mul_assoc
theorem kH:type_of% @List.getElem_map:= @List.getElem_map
theorem kI:type_of% @Rat.zero_add:= @Rat.zero_add
theorem k6:type_of% @List.length_nil:= @List.length_nil
theorem k7:type_of% @Int.natAbs_natCast:= @Int.natAbs_natCast
theorem k8:type_of% @List.map_congr_left:= @List.map_congr_left
theorem k9:type_of% @List.map_cons:= @List.map_cons
theorem lz:type_of% @Nat.mod_lt:= @Nat.mod_lt
theorem lA:type_of% @List.append_nil:= @List.append_nil
theorem lB:type_of% @List.getElem?_map:= @List.getElem?_map
theorem lV:type_of% @cond_true:= @cond_true
theorem lW:type_of% @List.getElem?_set_ne:= @List.getElem?_set_ne
theorem lX:type_of% @Nat.pow_pos:= @Nat.pow_pos
theorem mr:type_of% @List.append_assoc:= @List.append_assoc
theorem mu:type_of% @Int.mul_comm:= @Int.mul_comm
theorem mv:type_of% @Int.one_mul:= @Int.one_mul
theorem mU:type_of% @Bool.true_and:= @Bool.true_and
theorem ny:type_of% @Nat.mod_eq_of_lt:= @Nat.mod_eq_of_lt
theorem nz:type_of% @Nat.eq_zero_or_pos:= @Nat.eq_zero_or_pos
theorem nA:type_of% @Rat.mul_comm:= @Rat.mul_comm
theorem nB:type_of% @or_false:= @or_false
theorem n8:type_of% @List.getElem?_eq_getElem:= @List.getElem?_eq_getElem
theorem n9:type_of% @List.take_succ_eq_append_getElem:= @List.take_succ_eq_append_getElem
theorem oa:type_of% @Rat.zero_mul:= @Rat.zero_mul
theorem oN:type_of% @cond_false:= @cond_false
theorem oO:type_of% @Option.some.inj:= @Option.some.inj
theorem oP:type_of% @List.getElem?_set_self:= @List.getElem?_set_self
theorem oQ:type_of% @Nat.lt_irrefl:= @Nat.lt_irrefl
theorem oR:type_of% @Nat.div_eq_of_lt:= @Nat.div_eq_of_lt
theorem oS:type_of% @List.getElem?_append:= @List.getElem?_append
theorem oT:type_of% @List.cons_append:= @List.cons_append
theorem oU:type_of% @Nat.le_add_right:= @Nat.le_add_right
theorem oV:type_of% @Nat.add_comm:= @Nat.add_comm
theorem oW:type_of% @Int.eq_ofNat_of_zero_le:= @Int.eq_ofNat_of_zero_le
theorem oX:type_of% @List.mem_nil_iff:= @List.mem_nil_iff
theorem pO:type_of% @Nat.eq_of_beq_eq_true:= @Nat.eq_of_beq_eq_true
theorem pP:type_of% @Nat.beq_refl:= @Nat.beq_refl
theorem pQ:type_of% @Nat.ne_of_lt:= @Nat.ne_of_lt
theorem pR:type_of% @Option.getD_some:= @Option.getD_some
theorem pS:type_of% @List.mem_of_getElem?:= @List.mem_of_getElem?
theorem pI:type_of% @List.mem_of_mem_take:= @List.mem_of_mem_take
theorem pJ:type_of% @List.getElem?_replicate:= @List.getElem?_replicate
theorem pK:type_of% @Nat.sub_self:= @Nat.sub_self
theorem pL:type_of% @Int.mul_left_comm:= @Int.mul_left_comm
theorem pM:type_of% @Rat.intCast_mul:= @Rat.intCast_mul
theorem pN:type_of% @Rat.one_mul:= @Rat.one_mul
theorem qs:type_of% @List.getElem?_take:= @List.getElem?_take
theorem qt:type_of% @Nat.one_mul:= @Nat.one_mul
theorem qu:type_of% @Int.natAbs_neg:= @Int.natAbs_neg
theorem qv:type_of% @Rat.le_trans:= @Rat.le_trans
theorem qw:type_of% @Int.mul_neg:= @Int.mul_neg
theorem qx:type_of% @Rat.le_antisymm:= @Rat.le_antisymm
theorem ra:type_of% @Ne.symm:= @Ne.symm
theorem rb:type_of% @Nat.ble_eq_true_of_le:= @Nat.ble_eq_true_of_le
theorem re:type_of% @Nat.lt_of_le_of_lt:= @Nat.lt_of_le_of_lt
theorem rf:type_of% @Nat.mul_one:= @Nat.mul_one
theorem rh:type_of% @Int.neg_mul:= @Int.neg_mul
theorem ri:type_of% @Nat.le_of_lt:= @Nat.le_of_lt
theorem rj:type_of% @List.drop_length:= @List.drop_length
theorem sd:type_of% @Bool.false_eq_true:= @Bool.false_eq_true
theorem se:type_of% @List.all_eq_true:= @List.all_eq_true
theorem sf:type_of% @Classical.choose_spec:= @Classical.choose_spec
theorem sg:type_of% @List.any_eq_true:= @List.any_eq_true
theorem sh:type_of% @Int.mul_nonneg:= @Int.mul_nonneg
theorem s7:type_of% @List.take_append_drop:= @List.take_append_drop
theorem s8:type_of% @Option.map_some:= @Option.map_some
theorem s9:type_of% @List.mem_append_left:= @List.mem_append_left
theorem ta:type_of% @Nat.mul_zero:= @Nat.mul_zero
theorem tb:type_of% @List.drop_zero:= @List.drop_zero
theorem tc:type_of% @decide_eq_decide:= @decide_eq_decide
theorem td:type_of% @Rat.le_refl:= @Rat.le_refl
theorem te:type_of% @Rat.mul_assoc:= @Rat.mul_assoc
theorem tf:type_of% @List.length_filter_le:= @List.length_filter_le
theorem tg:type_of% @List.map_map:= @List.map_map
theorem th:type_of% @List.map_nil:= @List.map_nil
theorem ti:type_of% @List.range_succ:= @List.range_succ
theorem tj:type_of% @Rat.le_of_mul_le_mul_right:= @Rat.le_of_mul_le_mul_right
theorem tk:type_of% @Eq.trans:= @Eq.trans
theorem tl:type_of% @Bool.false_ne_true:= @Bool.false_ne_true
theorem ux:type_of% @Nat.zero_mul:= @Nat.zero_mul
theorem uy:type_of% @List.mem_cons_of_mem:= @List.mem_cons_of_mem
theorem uz:type_of% @Bool.not_eq_true:= @Bool.not_eq_true
theorem uA:type_of% @Int.add_zero:= @Int.add_zero
theorem uB:type_of% @List.any_eq_false:= @List.any_eq_false
theorem uC:type_of% @Bool.false_and:= @Bool.false_and
theorem vV:type_of% @dite_true:= @dite_true
theorem vW:type_of% @List.getElem?_range:= @List.getElem?_range
theorem vX:type_of% @Nat.div_le_self:= @Nat.div_le_self
theorem vY:type_of% @List.mem_filter:= @List.mem_filter
theorem vZ:type_of% @List.mem_cons_self:= @List.mem_cons_self
theorem v7:type_of% @List.length_drop:= @List.length_drop
theorem v8:type_of% @List.length_eq_zero_iff:= @List.length_eq_zero_iff
theorem wa:type_of% @Int.ofNat_lt:= @Int.ofNat_lt
theorem wb:type_of% @Bool.or_eq_true:= @Bool.or_eq_true
theorem wc:type_of% @Rat.mul_zero:= @Rat.mul_zero
theorem we:type_of% @Classical.byContradiction:= @Classical.byContradiction
theorem wg:type_of% @Rat.mul_nonneg:= @Rat.mul_nonneg
theorem wh:type_of% @List.getD_eq_getElem?_getD:= @List.getD_eq_getElem?_getD
theorem xF:type_of% @Nat.add_sub_cancel_left:= @Nat.add_sub_cancel_left
theorem xG:type_of% @Nat.sub_zero:= @Nat.sub_zero
theorem xH:type_of% @Bool.eq_iff_iff:= @Bool.eq_iff_iff
theorem xI:type_of% @List.mem_range:= @List.mem_range
theorem xJ:type_of% @List.pairwise_iff_getElem:= @List.pairwise_iff_getElem
theorem xK:type_of% @Nat.pow_zero:= @Nat.pow_zero
theorem xL:type_of% @List.mem_or_eq_of_mem_set:= @List.mem_or_eq_of_mem_set
theorem xM:type_of% @Nat.div_lt_of_lt_mul:= @Nat.div_lt_of_lt_mul
theorem xN:type_of% @List.set_set:= @List.set_set
theorem xO:type_of% @Nat.pow_le_pow_left:= @Nat.pow_le_pow_left
theorem xP:type_of% @Rat.add_assoc:= @Rat.add_assoc
theorem xQ:type_of% @Int.le_of_lt:= @Int.le_of_lt
theorem xR:type_of% @Int.mul_pos:= @Int.mul_pos
theorem xS:type_of% @Rat.intCast_natCast:= @Rat.intCast_natCast
theorem xT:type_of% @List.getElem_set:= @List.getElem_set
theorem xU:type_of% @List.nodup_cons:= @List.nodup_cons
theorem xV:type_of% @Int.mul_eq_zero:= @Int.mul_eq_zero
theorem zk:type_of% @Prod.mk.injEq:= @Prod.mk.injEq
theorem zl:type_of% @Nat.pos_of_ne_zero:= @Nat.pos_of_ne_zero
theorem zm:type_of% @List.mem_replicate:= @List.mem_replicate
theorem zn:type_of% @Int.lt_trichotomy:= @Int.lt_trichotomy
theorem zo:type_of% @Nat.div_add_mod:= @Nat.div_add_mod
theorem zp:type_of% @Nat.mul_pos:= @Nat.mul_pos
theorem zq:type_of% @List.all_cons:= @List.all_cons
theorem zr:type_of% @Int.mul_add:= @Int.mul_add
theorem zt:type_of% @List.getElem_range:= @List.getElem_range
theorem zu:type_of% @Rat.add_le_add_left:= @Rat.add_le_add_left
theorem zv:type_of% @List.map_id:= @List.map_id
theorem zw:type_of% @Rat.mul_one:= @Rat.mul_one
theorem zx:type_of% @Rat.not_lt:= @Rat.not_lt
theorem zy:type_of% @Rat.le_of_lt:= @Rat.le_of_lt
theorem zz:type_of% @Array.getD_eq_getD_getElem?:= @Array.getD_eq_getD_getElem?
theorem zA:type_of% @Int.sub_zero:= @Int.sub_zero
theorem zB:type_of% @Bool.not_eq_true':= @Bool.not_eq_true'
theorem zC:type_of% @List.length_pos_iff:= @List.length_pos_iff
theorem zD:type_of% @List.not_mem_nil:= @List.not_mem_nil
theorem Bg:type_of% @Array.getElem?_setIfInBounds:= @Array.getElem?_setIfInBounds
theorem Bh:type_of% @List.getElem?_toArray:= @List.getElem?_toArray
theorem Bi:type_of% @List.getD_cons_zero:= @List.getD_cons_zero
theorem Bj:type_of% @List.drop_of_length_le:= @List.drop_of_length_le
theorem Bk:type_of% @Array.mem_toList_iff:= @Array.mem_toList_iff
theorem Bl:type_of% @List.set_append_right:= @List.set_append_right
theorem Bm:type_of% @Bool.false_or:= @Bool.false_or
theorem Bn:type_of% @Nat.le_of_dvd:= @Nat.le_of_dvd
theorem Bo:type_of% @Rat.mul_le_mul_of_nonneg_left:= @Rat.mul_le_mul_of_nonneg_left
theorem DK:type_of% @of_decide_eq_true:= @of_decide_eq_true
theorem DL:type_of% @Array.toArray_toList:= @Array.toArray_toList
theorem DM:type_of% @Array.getElem?_append:= @Array.getElem?_append
theorem DN:type_of% @List.getElem?_set:= @List.getElem?_set
theorem DO:type_of% @Nat.lt_trichotomy:= @Nat.lt_trichotomy
theorem DP:type_of% @Nat.div_lt_self:= @Nat.div_lt_self
theorem DQ:type_of% @Nat.mul_ne_zero:= @Nat.mul_ne_zero
theorem DR:type_of% @Nat.gcd_dvd_right:= @Nat.gcd_dvd_right
theorem DS:type_of% @Rat.intCast_add:= @Rat.intCast_add
theorem DT:type_of% @List.nodup_iff_pairwise_ne:= @List.nodup_iff_pairwise_ne
theorem DU:type_of% @List.getElem_cons_succ:= @List.getElem_cons_succ
theorem DV:type_of% @Rat.add_le_add_right:= @Rat.add_le_add_right
theorem DW:type_of% @Int.natCast_nonneg:= @Int.natCast_nonneg
theorem DX:type_of% @List.getElem_replicate:= @List.getElem_replicate
theorem GN:type_of% @Array.getElem?_append_left:= @Array.getElem?_append_left
theorem GO:type_of% @List.drop_eq_getElem_cons:= @List.drop_eq_getElem_cons
theorem GP:type_of% @Nat.add_mul_mod_self_left:= @Nat.add_mul_mod_self_left
theorem GQ:type_of% @List.dropWhile_cons_of_neg:= @List.dropWhile_cons_of_neg
theorem GR:type_of% @Int.mul_ediv_cancel_left:= @Int.mul_ediv_cancel_left
theorem GS:type_of% @decide_eq_false_iff_not:= @decide_eq_false_iff_not
theorem GU:type_of% @Option.map_eq_some_iff:= @Option.map_eq_some_iff
theorem GV:type_of% @Rat.intCast_le_intCast:= @Rat.intCast_le_intCast
theorem GW:type_of% @List.eq_of_mem_replicate:= @List.eq_of_mem_replicate
namespace Go.aj
mutual
inductive ao where
 |int (k:IntKind) (n:Int)
 |bool (b:Bool)
 |str (s:List UInt8)
 |nil
 |ro (c:Cells) (i len:Nat)
 |aC (h i len:Nat)
 |cK (c:Cells) (i j:Nat)
 |ptr (h i j:Nat)
 |p0
 |fn (f:FuncId) (cap:List ao)
 |pZ
 |iface
 |ov
 |agg (l:List ao)
 |ck (l:List ao)
 |mp (h:Nat)
 |iC (ks vs:List ao)
 |any
inductive Cells where
 |ints (k:IntKind) (l:List Int)
 |strs (l:List (List UInt8))
 |box (l:List ao)
 |fn (n s:Nat) (f:Nat→Nat→ao)
 |mp (ks vs:List ao)
end
def Cells.len:Cells→Nat
 | .ints _ l=>l.length
 | .strs l=>l.length
 | .box _=>1
 | .fn n _ _=>n
 | .mp _ _=>0
def Cells.aI:Cells→Nat
 | .ints _ _=>1
 | .strs _=>1
 | .box l=>l.length
 | .fn _ s _=>s
 | .mp _ _=>0
def Cells.at:Cells→Nat→Nat→ao
 | .ints k l,i,_=> .int k (l.getD i 0)
 | .strs l,i,_=> .str (l.getD i [])
 | .box l,_,j=>l.getD j .any
 | .fn _ _ f,i,j=>f i j
 | .mp _ _,_,_=> .any
def Cells.b7:Cells→Nat×Cells
 | .mp ks vs=>(0,.mp ks vs)
 | .ints _ _=>(1,.strs [])
 | .strs _=>(1,.strs [])
 | .box l=>(l.length,.strs [])
 | .fn _ s _=>(s,.strs [])
theorem A1 {a b:Cells}(h:b.b7=a.b7):b.aI=a.aI:=by cases a<;>cases b<;>simp_all [Cells.b7,Cells.aI]
theorem agU {b:Cells}{ks vs:List ao}(h:b.b7=(Cells.mp ks vs).b7):b= .mp ks vs:=by cases b<;>simp_all [Cells.b7]
structure bm where
 ty:TypeId
 c:Cells
abbrev aY:=List (Option bm)
abbrev Fr:=List (Nat×ao)
inductive bP where
 |at (b s cap:Nat)
 |l9
def pD (s:List UInt8):Value:= .string ⟨s.toArray⟩
inductive bz (w:World)(S:Nat→Prop):(Nat→Option bP)→ao→Value→Prop
 |int (σ k n):bz w S σ (.int k n) (.int k n)
 |bool (σ b):bz w S σ (.bool b) (.bool b)
 |str (σ s):bz w S σ (.str s) (pD s)
 |nil (σ):bz w S σ .nil (.slice none 0 0)
 |ko (σ c i a cap):bz w S σ (.ro c i 0) (.slice a 0 cap)
 |ro (σ c i len b o cap) (val:Nat→Nat→Value) (dm:S b) (hlen:len≤cap)
  (av: ∀d j,d<len→j<c.aI→w.cell? ⟨b,o+d*c.aI+j,none⟩=some (val d j))
  (af: ∀d j,d<len→j<c.aI→bz w S (fun _=>none) (c.at (i+d) j) (val d j)) (U: ∀d j,d<len→j<c.aI→(val d j).oneCell'=true):
  bz w S σ (.ro c i len) (.slice (some ⟨b,o,none⟩) len cap)
 |aC (σ h i len b s C cap) (bL:σ h=some (.at b s C)) (hlen:len≤cap) (kh:i+cap=C):
  bz w S σ (.aC h i len) (.slice (some ⟨b,i*s,none⟩) len cap)
 |iD (σ h) (bL:σ h=some .l9):bz w S σ (.aC h 0 0) (.slice none 0 0)
 |cK (σ c i j b o) (val:Nat→Value) (dm:S b)
  (av: ∀e,j+e<c.aI→w.cell? ⟨b,o+e,none⟩=some (val e))
  (af: ∀e,j+e<c.aI→bz w S (fun _=>none) (c.at i (j+e)) (val e)) (U: ∀e,j+e<c.aI→(val e).oneCell'=true):
  bz w S σ (.cK c i j) (.pointer (some ⟨b,o,none⟩))
 |ptr (σ h i j b s C) (bL:σ h=some (.at b s C)):bz w S σ (.ptr h i j) (.pointer (some ⟨b,i*s+j,none⟩))
 |p0 (σ):bz w S σ .p0 (.pointer none)
 |fn (σ f cap) (vs:Array Value) (au:vs.size=cap.length) (af: ∀i,i<cap.length→bz w S σ (cap.getD i .any) (vs.getD i undef)):
  bz w S σ (.fn f cap) (.func (.func f) #[] vs)
 |pZ (σ):bz w S σ .pZ .nilFunc
 |iface (σ t v):bz w S σ .iface (.iface t v)
 |ov (σ):bz w S σ .ov .nilIface
 |agg (σ l) (vs:Array Value) (au:vs.size=l.length) (af: ∀i,i<l.length→bz w S σ (l.getD i .any) (vs.getD i undef)) (U: ∀i,i<l.length→(vs.getD i undef).oneCell'=true):
  bz w S σ (.agg l) (.agg vs)
 |ck (σ l) (vs:Array Value) (au:vs.size=l.length) (af: ∀i,i<l.length→bz w S σ (l.getD i .any) (vs.getD i undef)):
  bz w S σ (.ck l) (.tuple vs)
 |mp (σ h b) (bL:σ h=some (.at b 0 (maxLen+1))):bz w S σ (.mp h) (.map (some b))
 |iC (σ ks vs b es clock) (e:Nat→MapEntry) (dm:S b) (ak:w.heap[b]? =some (.map es clock)) (aG:es.size=ks.length) (au:vs.length=ks.length) (hd:es.toList.Pairwise (fun x y=>x.key≠y.key))
  (he: ∀i,i<ks.length→es[i]? =some (e i)) (an: ∀i,i<ks.length→bz w S (fun _=>none) (ks.getD i .any) (e i).key) (af: ∀i,i<ks.length→bz w S (fun _=>none) (vs.getD i .any) (e i).val):
  bz w S σ (.iC ks vs) (.map (some b))
 |any (σ v):bz w S σ .any v
theorem bz.mono {w w':World}{S cb:Nat→Prop}(dm: ∀b,S b→cb b)(ak: ∀b,S b→w'.heap[b]? =w.heap[b]?){σ:Nat→Option bP}{x:ao}{v:Value}(h:bz w S σ x v): ∀bC,(∀h B,σ h=some B→bC h=some B)→bz w' cb bC x v:=by
 have oi: ∀b o,S b→w'.cell? ⟨b,o,none⟩=w.cell? ⟨b,o,none⟩:=fun b o az=>World.cell?_of_block (ak b az);induction h with
 |int=>intros;constructor
 |bool=>intros;constructor
 |str=>intros;constructor
 |nil=>intros;constructor
 |ko=>intros;constructor
 |ro σ c i len b o cap val fs hlen av af U a6=>
  intro bC bL;refine .ro _ _ _ _ _ _ _ val (dm _ fs) hlen (fun d j hd ae=>by rw [oi _ _ fs];exact av d j hd ae) (fun d j hd ae=>a6 d j hd ae _ (fun _ _ h=>h)) U
 |aC σ h i len b s C cap Ah hlen kh=>intro bC bL;exact .aC _ _ _ _ _ _ _ _ (bL _ _ Ah) hlen kh
 |iD σ h Ah=>intro bC bL;exact .iD _ _ (bL _ _ Ah)
 |cK σ c i j b o val fs av af U a6=>
  intro bC bL;exact .cK _ _ _ _ _ _ val (dm _ fs) (fun e he=>by rw [oi _ _ fs];exact av e he) (fun e he=>a6 e he _ (fun _ _ h=>h)) U
 |ptr σ h i j b s C Ah=>intro bC bL;exact .ptr _ _ _ _ _ _ _ (bL _ _ Ah)
 |p0=>intros;constructor
 |fn σ f cap vs au af a6=>intro bC bL;exact .fn _ _ _ _ au (fun i aa=>a6 i aa _ bL)
 |pZ=>intros;constructor
 |iface=>intros;constructor
 |ov=>intros;constructor
 |agg σ l vs au af U a6=>intro bC bL;exact .agg _ _ _ au (fun i aa=>a6 i aa _ bL) U
 |ck σ l vs au af a6=>intro bC bL;exact .ck _ _ _ au (fun i aa=>a6 i aa _ bL)
 |mp σ h b Ah=>intro bC bL;exact .mp _ _ _ (bL _ _ Ah)
 |iC σ ks vs b es clock e fs rq aG au hd he an af MV MX=>
  intro bC bL;exact .iC _ _ _ b es clock e (dm _ fs) (by rw [ak _ fs];exact rq) aG au hd he (fun i aa=>MV i aa _ (fun _ _ h=>h)) (fun i aa=>MX i aa _ (fun _ _ h=>h))
 |any=>intros;constructor
inductive Lays (w:World)(S:Nat→Prop)(σ:Nat→Option bP)(o:bm)(b:Nat)(cur:Array Value)(C:Nat):Prop
 |row (mk:Nat×Nat) (h:w.heap[b]? =some (.cells cur o.ty mk)) (hm:mk.2≤mk.1∨cur.size≤mk.1) (eh:C≤maxLen)
 |map (ks vs:List ao) (es:Array MapEntry) (clock:Nat) (av:o.c= .mp ks vs) (eh:C=maxLen+1) (h:w.heap[b]? =some (.map es clock)) (aG:es.size=ks.length) (au:vs.length=ks.length) (hd:es.toList.Pairwise (fun x y=>x.key≠y.key))
  (he: ∀i,i<ks.length→ ∃e,es[i]? =some e∧bz w S σ (ks.getD i .any) e.key∧bz w S σ (vs.getD i .any) e.val)
theorem Lays.lt {w:World}{S:Nat→Prop}{σ:Nat→Option bP}{o:bm}{b:Nat}{cur:Array Value}{C:Nat}(h:Lays w S σ o b cur C):b<w.heap.size:=by
 cases h with
 |row mk h=>exact (Array.getElem?_eq_some_iff.1 h).1
 |map ks vs es clock av eh h=>exact (Array.getElem?_eq_some_iff.1 h).1
theorem Lays.mono {w w':World}{S cb:Nat→Prop}{σ bC:Nat→Option bP}{o:bm}{b:Nat}{cur:Array Value}{C:Nat}(ak:w'.heap[b]? =w.heap[b]?)(af: ∀{x v},bz w S σ x v→bz w' cb bC x v)(h:Lays w S σ o b cur C):Lays w' cb bC o b cur C:=by
 cases h with
 |row mk h hm eh=>exact .row mk (by rw [ak];exact h) hm eh
 |map ks vs es clock av eh h aG au hd he=>exact .map ks vs es clock av eh (by rw [ak];exact h) aG au hd (fun i aa=>let ⟨e,aE,aF,bO⟩:=he i aa;⟨e,aE,af aF,af bO⟩)
theorem Lays.b7 {w:World}{S:Nat→Prop}{σ:Nat→Option bP}{o o':bm}{b:Nat}{cur:Array Value}{C:Nat}(bu:o'.ty=o.ty)(an:o'.c.b7=o.c.b7)(h:Lays w S σ o b cur C):Lays w S σ o' b cur C:=by
 cases h with
 |row mk h hm eh=>exact .row mk (by rw [bu];exact h) hm eh
 |map ks vs es clock av eh h aG au hd he=>exact .map ks vs es clock (agU (by rw [an,av])) eh h aG au hd he
theorem Lays.cells {w:World}{S:Nat→Prop}{σ:Nat→Option bP}{o:bm}{b:Nat}{cur:Array Value}{C:Nat}(h:Lays w S σ o b cur C)(az:o.c.aI≠0):
 ∃mk,w.heap[b]? =some (.cells cur o.ty mk)∧(mk.2≤mk.1∨cur.size≤mk.1)∧C≤maxLen:=by
 cases h with
 |row mk h hm eh=>exact ⟨mk,h,hm,eh⟩
 |map ks vs es clock av=>rw [av] at az;exact absurd rfl az
theorem Lays.oY {w:World}{S:Nat→Prop}{σ:Nat→Option bP}{o:bm}{b:Nat}{cur:Array Value}{C:Nat}(h:Lays w S σ o b cur C)(eh:C≤maxLen):
 ∃mk,w.heap[b]? =some (.cells cur o.ty mk)∧(mk.2≤mk.1∨cur.size≤mk.1):=by
 cases h with
 |row mk h hm _=>exact ⟨mk,h,hm⟩
 |map ks vs es clock av aqn=>omega
structure lU (w:World)(S:Nat→Prop)(σ:Nat→Option bP)(H:aY):Prop where
 live: ∀h o,H[h]? =some (some o)→
  (σ h=some .l9∧o.c.len=0)∨
  ∃b C cur,σ h=some (.at b o.c.aI C)∧Lays w S σ o b cur C∧cur.size=C*o.c.aI∧C≤maxLen+1∧o.c.len≤C∧ ¬S b∧
   ∀i j,i<o.c.len→j<o.c.aI→ ∃v,cur[i*o.c.aI+j]? =some v∧bz w S σ (o.c.at i j) v∧v.oneCell'=true
 hB: ∀h aS o o' b s C ct cM,H[h]? =some (some o)→H[aS]? =some (some o')→σ h=some (.at b s C)→σ aS=some (.at b ct cM)→h=aS
 small: ∀b,S b→b<w.heap.size
 ie: ∀h,H.length≤h→σ h=none
end Go.aj
namespace Go.aj
open Go.RowKit
theorem dz {a b:Nat}(h:a≠b):Nat.beq a b=false:=by
 cases ak:Nat.beq a b with
 |false=>rfl
 |true=>exact absurd (pO ak) h
def look (t:Nat):Fr→Option ao
 |[]=>none
 |(u,v)::r=>bif Nat.beq t u then some v else look t r
class bx where
 G:World→(Nat→Prop)→Prop
variable [bx]
structure Ctx where
 dO:World
 xD:Nat→Prop
 O:Nat→Prop
 qm:Nat→Option bP
 fix:Nat→Prop
 R:ao→aY→Prop
 aiC: ∀(w:World) (S:Nat→Prop),(∀b,xD b→S b)→dO.heap.size≤w.heap.size→(∀b,b<dO.heap.size→ ¬O b→w.heap[b]? =dO.heap[b]?)→bx.G w S
structure xB (c:Ctx)(w:World)(S:Nat→Prop)(σ:Nat→Option bP)(H:aY):Prop where
 os:w.os=c.dO.os
 output:w.output=c.dO.output
 tape:w.tape=c.dO.tape
 size:c.dO.heap.size≤w.heap.size
 block: ∀b,b<c.dO.heap.size→ ¬c.O b→w.heap[b]? =c.dO.heap[b]?
 hV: ∀b,c.xD b→S b
 fb: ∀b,S b→c.xD b∨c.O b∨c.dO.heap.size≤b
 fixed: ∀h,c.fix h→σ h=c.qm h
 jF: ∀h,c.fix h→h<H.length
 own: ∀h o b s C,H[h]? =some (some o)→σ h=some (.at b s C)→c.O b∨c.dO.heap.size≤b
structure cd (c:Ctx)(w:World)(a:Act)(σ:Nat→Option bP)(S:Nat→Prop)(n:Nat)(fr:Fr)(H:aY):Prop where
 ad:lU w S σ H
 bk:xB c w S σ H
 defers:a.defers=[]
 size:a.tmps.size=n
 fl: ∀t v,look t fr=some v→t<n∧bz w S σ v (a.tmps.getD t undef)
inductive eO where
 |code (c:Code)
 |rk (id:Nat)
 |scope
 |inv (G:Fr→aY→Prop)
 |any (all:Array Oper) (fuel:Nat) (listed:Array Bool)
def lift (c:Ctx)(n:Nat)(Q:Exit→Fr→aY→Prop):Exit→Act→World→Prop:=fun e a w=> ∃σ S fr H,cd c w a σ S n fr H∧Q e fr H
def Gw (P:Program)(fr:Fr)(H:aY):ResultVar→Option ao
 | .tmp t=>look t fr
 | .cell t ty=>
  match look t fr with
  |some (.ptr h 0 0)=>
   match H[h]? with
   |some (some o)=>
    match o.c with
    | .box l=>
     match P.underlying ty,P.info? ty with
     |some (.struct _),some i=>bif Nat.beq i.size l.length then some (.agg l) else none
     |some (.array _ _),some i=>bif Nat.beq i.size l.length then some (.agg l) else none
     |some (.struct _),none=>none
     |some (.array _ _),none=>none
     |some _,_=>bif Nat.beq 1 l.length then l[0]? else none
     |none,_=>none
    |_=>none
   |_=>none
  |_=>none
def ug (P:Program)(fr:Fr)(H:aY):List ResultVar→Option (List ao)
 |[]=>some []
 |r::rs=>match Gw P fr H r with
  |some v=>match ug P fr H rs with
   |some vs=>some (v::vs)
   |none=>none
  |none=>none
def gP:List ao→ao
 |[v]=>v
 |vs=> .ck vs
def eD (P:Program)(fn:Func)(c:Ctx):List eO→Exit→Fr→aY→Prop
 |[],e,fr,H=>(e= .normal∨e= .ret)∧ ∃vs,ug P fr H fn.results.toList=some vs∧c.R (gP vs) H
 | .code rm::k,.normal,fr,H=> ∀w a σ S,cd c w a σ S fn.ntmps fr H→rm.wp P (lift c fn.ntmps (eD P fn c k)) a w
 | .code _::k,e,fr,H=>eD P fn c k e fr H
 | .rk id::k,.exit uX,fr,H=>bif Nat.beq uX id then eD P fn c k .normal fr H else eD P fn c k (.exit uX) fr H
 | .rk _::k,e,fr,H=>eD P fn c k e fr H
 | .scope::k,e,fr,H=>match e with
  | .goto _=>False
  |e=>eD P fn c k e fr H
 | .inv G::k,e,fr,H=>match e with
  | .normal=>G fr H
  |e=>eD P fn c k e fr H
 | .any all fuel listed::k,e,fr,H=>match e with
  | .normal=> ∀w a σ S,cd c w a σ S fn.ntmps fr H→wpAny P .any all (lift c fn.ntmps (eD P fn c k)) fuel listed a w
  |e=>eD P fn c k e fr H
inductive M where
 |code (c:Code) (k:List eO)
 |ops (q:Bool) (all:Array Oper) (rest:List Oper) (k:List eO)
 |any (all:Array Oper) (fuel:Nat) (listed:Array Bool) (k:List eO)
 |post (e:Exit) (k:List eO)
def qc (n:Nat):List Oper→Bool
 |[]=>true
 |o::r=>(match o.dst with|some d=>Nat.blt d n|none=>true) && qc n r
def aj (P:Program)(fn:Func)(c:Ctx):M→Fr→aY→Prop
 | .code rm k,fr,H=> ∀w a σ S,cd c w a σ S fn.ntmps fr H→rm.wp P (lift c fn.ntmps (eD P fn c k)) a w
 | .ops false all rest k,fr,H=>qc fn.ntmps rest=true→ ∀w a σ S,cd c w a σ S fn.ntmps fr H→wpList P all (lift c fn.ntmps (eD P fn c k)) rest a w
 | .ops true all rest k,fr,H=>qc fn.ntmps rest=true→ ∀w a σ S,cd c w a σ S fn.ntmps fr H→
  wpQuiet P all (fun w'=> ∃m,w'=w.drewN m) (fun ly=> ∀w',(∃m,w'=w.drewN m)→lift c fn.ntmps (eD P fn c k) .normal ly w') rest a
 | .any all fuel listed k,fr,H=> ∀w a σ S,cd c w a σ S fn.ntmps fr H→wpAny P .any all (lift c fn.ntmps (eD P fn c k)) fuel listed a w
 | .post e k,fr,H=>eD P fn c k e fr H
theorem ama {P:Program}{Q:Exit→Act→World→Prop}{a:Act}{w:World}{c:Code}{ι:Type}(bU:ι→Act→World→Prop)(zb:ι→Nat)(i0:ι)(h₀:bU i0 a w)(round: ∀i a w,bU i a w→c.wp P (Exit.then (fun ly w'=> ∃j,bU j ly w'∧zb j<zb i) Q) a w):(Code.loop c).wp P Q a w:=by
 have bY:= ‹bx›;intro b k cs;have key: ∀n i a w,zb i=n→bU i a w→
  ∃e ly w',Q e ly w'∧Arrives P (lone (b.at a (.code c:: .inLoop c::k)) cs w) b k cs e ly w':=by
  intro n;induction n using Nat.strongRecOn with
  |_ n a6=>
   intro i a w aG my;obtain ⟨e,Bp,Cn,aA,uL⟩:=round i a w my b (.inLoop c::k) cs;cases e with
   |normal=>
    obtain ⟨j,adD,bG⟩:=aA;obtain ⟨acH,aav,alz,afQ,aec⟩:=a6 (zb j) (aG▸bG) j Bp Cn rfl adD;exact ⟨acH,aav,alz,afQ,.of_steps (Steps.trans uL (.one step_inLoop)) aec⟩
   |exit id=>exact ⟨_,Bp,Cn,aA,.pass (x:= .inLoop c) rfl (fun _ _=> .inl b1) uL⟩
   |goto l=>exact ⟨_,Bp,Cn,aA,.pass (x:= .inLoop c) rfl (fun _ _=> .inl b1) uL⟩
   |ret=>exact ⟨_,Bp,Cn,aA,.pass (x:= .inLoop c) rfl (fun _ _=> .inl b1) uL⟩
   |panic gd=>exact ⟨_,Bp,Cn,aA,.pass (x:= .inLoop c) rfl (fun _ _=> .inl b1) uL⟩
   |outgrown=>exact ⟨_,Bp,Cn,aA,.pass (x:= .inLoop c) rfl (fun _ _=> .inl b1) uL⟩
 obtain ⟨e,ly,w',aA,uL⟩:=key _ i0 a w rfl h₀;exact ⟨e,ly,w',aA,.of_steps (.one step_loop) uL⟩
section
variable {P:Program}{fn:Func}{c:Ctx}{fr:Fr}{H:aY}{k:List eO}
theorem du {x y:Code}(h:aj P fn c (.code x (.code y::k)) fr H):aj P fn c (.code (.seq x y) k) fr H:=by
 intro w a σ S ad;refine wp_seq (wp_mono (h w a σ S ad) ?_);rintro e ly w' ⟨bC,cb,iu,bK,fU,aD⟩;cases e with
 |normal=>exact aD w' ly bC cb fU
 |exit id=>exact ⟨bC,cb,iu,bK,fU,aD⟩
 |goto l=>exact ⟨bC,cb,iu,bK,fU,aD⟩
 |ret=>exact ⟨bC,cb,iu,bK,fU,aD⟩
 |panic gd=>exact ⟨bC,cb,iu,bK,fU,aD⟩
 |outgrown=>exact ⟨bC,cb,iu,bK,fU,aD⟩
theorem jk (h:aj P fn c (.post .normal k) fr H):aj P fn c (.code .skip k) fr H:=
 fun _ _ _ _ ad=>wp_skip ⟨_,_,_,_,ad,h⟩
theorem qU {id:Nat}(h:aj P fn c (.post (.exit id) k) fr H):aj P fn c (.code (.exit id) k) fr H:=
 fun _ _ _ _ ad=>wp_exit ⟨_,_,_,_,ad,h⟩
theorem oB (h:aj P fn c (.post .ret k) fr H):aj P fn c (.code .ret k) fr H:=
 fun _ _ _ _ ad=>wp_ret ⟨_,_,_,_,ad,h⟩
theorem fV {id:Nat}{x:Code}(h:aj P fn c (.code x (.rk id::k)) fr H):aj P fn c (.code (.block id x) k) fr H:=by
 intro w a σ S ad;refine wp_block (wp_mono (h w a σ S ad) ?_);rintro e ly w' ⟨bC,cb,iu,bK,fU,aD⟩;cases e with
 |exit uX=>
  simp only [Exit.inBlock];by_cases he:uX=id
  ·subst he;have sv:eD P fn c k .normal iu bK:=by simpa [eD] using aD
   simp only [gg];exact ⟨bC,cb,iu,bK,fU,sv⟩
  ·have sv:eD P fn c k (.exit uX) iu bK:=by have ak:Nat.beq uX id=false:=dz he;simpa [eD,ak] using aD
   simp only [he,hA];exact ⟨bC,cb,iu,bK,fU,sv⟩
 |normal=>exact ⟨bC,cb,iu,bK,fU,aD⟩
 |goto l=>exact ⟨bC,cb,iu,bK,fU,aD⟩
 |ret=>exact ⟨bC,cb,iu,bK,fU,aD⟩
 |panic gd=>exact ⟨bC,cb,iu,bK,fU,aD⟩
 |outgrown=>exact ⟨bC,cb,iu,bK,fU,aD⟩
theorem cd.drewN {w:World}{a:Act}{σ:Nat→Option bP}{S:Nat→Prop}{n m:Nat}(h:cd c w a σ S n fr H):cd c (w.drewN m) a σ S n fr H:=by
 have af: ∀{bC:Nat→Option bP} {x v},bz w S bC x v→bz (w.drewN m) S bC x v:=fun h=>h.mono (w:=w) (w':=w.drewN m) (fun _ h=>h) (fun _ _=>rfl) _ (fun _ _ h=>h);refine ⟨⟨fun aS o ai=> ?_,h.ad.hB,h.ad.small,h.ad.ie⟩,⟨h.bk.os,h.bk.output,h.bk.tape,h.bk.size,h.bk.block,h.bk.hV,h.bk.fb,h.bk.fixed,h.bk.jF,h.bk.own⟩,h.defers,h.size,fun t v au=>⟨(h.fl t v au).1,af (h.fl t v au).2⟩⟩;rcases h.ad.live aS o ai with aG|⟨b,C,cur,U,ab,ay,bc,bI,db,fh⟩
 ·exact .inl aG
 ·exact .inr ⟨b,C,cur,U,ab.mono (w:=w) (w':=w.drewN m) I af,ay,bc,bI,db,fun i j aa ae=>let ⟨v,gy,a2,a3⟩:=fh i j aa ae;⟨v,gy,af a2,a3⟩⟩
theorem yI {id:Nat}{l:List Oper}(hm:P.follows .mixedOrders=true)(cf:Region.lexB .any l.toArray=true)(hd:qc fn.ntmps l=true)(h:aj P fn c (.ops true l.toArray l k) fr H):aj P fn c (.code (.region id l.toArray true) k) fr H:=
 fun w a σ S ad=>wp_region_quiet_lit hm cf (h hd w a σ S ad)
theorem dc {id:Nat}{l:List Oper}(hd:qc fn.ntmps l=true)(h:aj P fn c (.ops false l.toArray l k) fr H):aj P fn c (.code (.region id l.toArray false) k) fr H:=
 fun w a σ S ad=>wp_region_list (by simpa using h hd w a σ S ad)
theorem cY {q:Bool}{all:Array Oper}(h:aj P fn c (.post .normal k) fr H):aj P fn c (.ops q all [] k) fr H:=by
 cases q with
 |false=>exact fun _ _ _ _ _ ad=>wpList_nil ⟨_,_,_,_,ad,h⟩
 |true=>exact fun _ w a σ S ad=>wpQuiet_nil (fun w' ⟨m,hw⟩=>⟨σ,S,_,_,hw▸ad.drewN,h⟩)
theorem b6 {x:Code}(h:aj P fn c (.code x k) fr H):aj P fn c (.post .normal (.code x::k)) fr H:=h
theorem kQ {id:Nat}(h:aj P fn c (.post .normal k) fr H):aj P fn c (.post .normal (.rk id::k)) fr H:=h
theorem cc {G:Fr→aY→Prop}(h:G fr H):aj P fn c (.post .normal (.inv G::k)) fr H:=h
theorem qR {x:Code}{id:Nat}(h:aj P fn c (.post (.exit id) k) fr H):aj P fn c (.post (.exit id) (.code x::k)) fr H:=h
theorem rO {G:Fr→aY→Prop}{id:Nat}(h:aj P fn c (.post (.exit id) k) fr H):aj P fn c (.post (.exit id) (.inv G::k)) fr H:=h
theorem qS {id:Nat}(h:aj P fn c (.post .normal k) fr H):aj P fn c (.post (.exit id) (.rk id::k)) fr H:=by show eD P fn c _ _ _ _;simp only [eD,pP,lV];exact h
theorem VD {id uX:Nat}(ch:Nat.beq uX id=false)(h:aj P fn c (.post (.exit uX) k) fr H):aj P fn c (.post (.exit uX) (.rk id::k)) fr H:=by show eD P fn c _ _ _ _;simp only [eD,ch,oN];exact h
theorem Ct {x:Code}(h:aj P fn c (.post .ret k) fr H):aj P fn c (.post .ret (.code x::k)) fr H:=h
theorem amQ {id:Nat}(h:aj P fn c (.post .ret k) fr H):aj P fn c (.post .ret (.rk id::k)) fr H:=h
theorem amR {G:Fr→aY→Prop}(h:aj P fn c (.post .ret k) fr H):aj P fn c (.post .ret (.inv G::k)) fr H:=h
theorem aZ {vs:List ao}{R:ao→aY→Prop}(ar:c.R=R)(af:ug P fr H fn.results.toList=some vs)(h:R (gP vs) H):aj P fn c (.post .ret []) fr H:=
 ⟨.inr rfl,vs,af,ar▸h⟩
theorem QR {vs:List ao}{R:ao→aY→Prop}(ar:c.R=R)(af:ug P fr H fn.results.toList=some vs)(h:R (gP vs) H):aj P fn c (.post .normal []) fr H:=
 ⟨.inl rfl,vs,af,ar▸h⟩
def yr:Value→Option ao
 | .int k n=>some (.int k n)
 | .bool b=>some (.bool b)
 | .string s=>some (.str s.data.toList)
 | .slice none 0 0=>some .nil
 | .pointer none=>some .p0
 | .nilFunc=>some .pZ
 | .nilIface=>some .ov
 |_=>none
def E8:List Value→Option (List ao)
 |[]=>some []
 |v::r=>match yr v with
  |some a=>match E8 r with
   |some l=>some (a::l)
   |none=>none
  |none=>none
def Bs:Value→Option ao
 | .agg cs=>match E8 cs.toList with
  |some l=>some (.agg l)
  |none=>none
 |v=>yr v
def bH (fr:Fr):Operand→Option ao
 | .tmp t=>look t fr
 | .const v=>Bs v
 | .global _=>none
 | .func f=>some (.fn f [])
theorem KS {w:World}{S:Nat→Prop}{σ:Nat→Option bP}{x:Value}{v:ao}(h:yr x=some v):bz w S σ v x∧x.oneCell'=true:=by
 have bY:= ‹bx›;cases x with
 |int k n=>cases h;exact ⟨.int _ _ _,rfl⟩
 |bool b=>cases h;exact ⟨.bool _ _,rfl⟩
 |string s=>cases h;exact ⟨bz.str σ s.data.toList,rfl⟩
 |slice jD len cap=>
  cases jD with
  |none=>
   cases len with
   |zero=>cases cap with
    |zero=>cases h;exact ⟨.nil _,rfl⟩
    |succ _=>cases h
   |succ _=>cases h
  |some _=>cases h
 |pointer p=>cases p with
  |none=>cases h;exact ⟨.p0 _,rfl⟩
  |some _=>cases h
 |nilFunc=>cases h;exact ⟨.pZ _,rfl⟩
 |nilIface=>cases h;exact ⟨.ov _,rfl⟩
 |_=>cases h
theorem ZL {w:World}{S:Nat→Prop}{σ:Nat→Option bP}: ∀{cs:List Value} {l:List ao},E8 cs=some l→cs.length=l.length∧ ∀i,i<l.length→bz w S σ (l.getD i .any) (cs.getD i undef)∧(cs.getD i undef).oneCell'=true
 |[],l,h=>by simp [E8] at h;subst h;exact ⟨rfl,fun i aa=>by simp at aa⟩
 |v::r,l,h=>by
  simp only [E8] at h;split at h
  ·rename_i a aW;split at h
   ·rename_i q aA;simp only [dG] at h;subst h;obtain ⟨i1,i2⟩:=ZL (w:=w) (S:=S) (σ:=σ) aA;refine ⟨by simp [i1],fun i aa=> ?_⟩;cases i with
    |zero=>exact KS aW
    |succ i=>simpa using i2 i (by simpa using aa)
   ·cases h
  ·cases h
theorem aln {w:World}{S:Nat→Prop}{σ:Nat→Option bP}{x:Value}{v:ao}(h:Bs x=some v):bz w S σ v x:=by
 unfold Bs at h;split at h
 ·rename_i cs;split at h
  ·rename_i l au;simp only [dG] at h;subst h;obtain ⟨i1,i2⟩:=ZL (w:=w) (S:=S) (σ:=σ) au;have az:cs.size=l.length:=by simpa using i1
   have e: ∀i,i<l.length→cs.toList.getD i undef=cs.getD i undef:=fun i aa=>by simp [List.getD,Array.getD,az,aa]
   exact .agg _ _ _ az (fun i aa=>by rw [←e i aa];exact (i2 i aa).1) (fun i aa=>by rw [←e i aa];exact (i2 i aa).2)
  ·cases h
 ·exact (KS h).1
theorem cd.ek {w:World}{a:Act}{σ:Nat→Option bP}{S:Nat→Prop}{n:Nat}(h:cd c w a σ S n fr H){o:Operand}{v:ao}(af:aj.bH fr o=some v):bz w S σ v (a.eval o):=by
 cases o with
 |tmp t=>exact (h.fl t v af).2
 |const x=>exact aln af
 |global g=>cases af
 |func f=>cases af;exact .fn _ _ _ #[] rfl (fun i aa=>by simp at aa)
theorem cd.put {w:World}{a:Act}{σ:Nat→Option bP}{S:Nat→Prop}{n d:Nat}{v:ao}{x:Value}(h:cd c w a σ S n fr H)(af:bz w S σ v x)(hd:d<n):cd c w (a.put (some d) x) σ S n ((d,v)::fr) H:=by
 refine ⟨h.ad,h.bk,h.defers,by simpa [Act.put] using h.size,fun t y au=> ?_⟩;simp only [look] at au;by_cases he:t=d
 ·subst he;simp only [pP,lV,dG] at au;subst au;refine ⟨hd,?_⟩;have:t<a.tmps.size:=by rw [h.size];exact hd
  simpa [Act.put,this] using af
 ·simp only [dz he,oN] at au;obtain ⟨U,ab⟩:=h.fl t y au;refine ⟨U,?_⟩;have: ¬d=t:=fun e=>he e.symm;simpa [Act.put,Bg,this] using ab
def bZ (ind:Bool)(P:Program)(fn:Func)(c:Ctx)(fr:Fr)(H:aY)(o:Oper)(v:ao):Prop:=
 ∀w a σ S,cd c w a σ S fn.ntmps fr H→ ∃x,bz w S σ v x∧ ∀w',(ind=true∨w'.heap=w.heap)→(execOp a.eval o).run P w'= .ok (.value x) w'
theorem tW {n:Nat}{o:Oper}{r:List Oper}(h:qc n (o::r)=true):(∀d,o.dst=some d→d<n)∧qc n r=true:=by have bY:= ‹bx›;simp only [qc,er] at h;refine ⟨fun d hd=> ?_,h.2⟩;have U:=h.1;rw [hd] at U;exact iZ U
theorem aq {q:Bool}{all:Array Oper}{d:Nat}{op:Op}{ty:TypeId}{pos:String}{after:Array Edge}{rest:List Oper}{v:ao}(qH:bZ false P fn c fr H ⟨some d,op,ty,pos,after,none⟩ v)(h:aj P fn c (.ops q all rest k) ((d,v)::fr) H):aj P fn c (.ops q all (⟨some d,op,ty,pos,after,none⟩::rest) k) fr H:=by
 cases q with
 |false=>
  intro hd w a σ S ad;obtain ⟨jr,jG⟩:=tW hd;obtain ⟨x,al,eR⟩:=qH w a σ S ad;refine wpList_step (fun K dE=> ?_);simp only [Region.wanted,gg];unfold Oper.wp;rw [eR w (.inr rfl)];exact dE _ _ (h jG w _ σ S (ad.put al (jr d I)))
 |true=>
  intro hd w a σ S ad;obtain ⟨jr,jG⟩:=tW hd;obtain ⟨x,al,eR⟩:=qH w a σ S ad;refine wpQuiet_step (fun K dE=> ?_);simp only [Region.wanted,gg];refine ⟨x,fun w' hw=> ?_,dE _ (h jG w _ σ S (ad.put al (jr d I)))⟩;obtain ⟨m,rfl⟩:=hw;unfold Oper.quietAt;rw [eR (w.drewN m) (.inr rfl)];exact ⟨I,I⟩
theorem CE {gd:List PanicEntry}: ∀(k:List eO),eD P fn c k (.panic gd) fr H→False
 |[],h=>by rcases h with ⟨h|h,_⟩<;>cases h
 | .code _::k,h=>CE k h
 | .rk _::k,h=>CE k h
 | .scope::k,h=>CE k h
 | .inv _::k,h=>CE k h
 | .any _ _ _::k,h=>CE k h
theorem ee {id:Nat}{l:List Oper}(hm:P.follows .mixedOrders=true)(h:aj P fn c (.any l.toArray l.length (Array.replicate l.length false) k) fr H):aj P fn c (.code (.region id l.toArray true) k) fr H:=by intro w a σ S ad;refine wp_region_any hm ?_;have ab:=h (w.drewN 1) a σ S ad.drewN;have e:l.toArray.size=l.length:=b1;rw [e];exact ab
theorem dX {all:Array Oper}{fuel:Nat}{listed:Array Bool}(ad:Region.ready .any all listed=[])(h:aj P fn c (.post .normal k) fr H):aj P fn c (.any all fuel listed k) fr H:=by
 intro w a σ S kl;cases fuel with
 |zero=>exact ⟨ad,_,_,_,_,kl,h⟩
 |succ f=>
  refine ⟨fun _=>⟨_,_,_,_,kl,h⟩,fun i aa=> ?_⟩;rw [ad] at aa;cases aa
theorem bF {all:Array Oper}{fuel:Nat}{listed B9:Array Bool}(i:Nat){d:Nat}{op:Op}{ty:TypeId}{pos:String}{after:Array Edge}{v:ao}(aa:all[i]? =some ⟨some d,op,ty,pos,after,none⟩)(afX:Region.noSelect all=true)(afR:(Region.ready .any all listed).contains i=true)(L5:Region.free .any all listed i=true)(hd:Nat.blt d fn.ntmps=true)(qH:bZ true P fn c fr H ⟨some d,op,ty,pos,after,none⟩ v)(au:listed.setIfInBounds i true=B9)(h:aj P fn c (.any all fuel B9 k) ((d,v)::fr) H):aj P fn c (.any all (fuel+1) listed k) fr H:=by
 intro w a σ S ad;subst au;obtain ⟨x,al,eR⟩:=qH w a σ S ad;refine wpAny_first aa (Region.noSelect_spec afX) ?_ fuel listed a w (Region.free_spec aa L5) (by simpa using afR) (v:=x) ?_ (h w _ σ S (ad.put al (iZ hd)))
 ·rintro gd ly w' ⟨_,_,_,_,_,aD⟩;exact (CE _ aD).elim
 ·exact .inl ⟨I,fun w'=>eR w' (.inl I)⟩
def GD (P:Program)(fn:Func)(c:Ctx)(all:Array Oper)(fuel:Nat)(listed:Array Bool)(k:List eO)(fr:Fr)(H:aY):List Nat→Prop
 |[]=>True
 |i::r=>(∀o,all[i]? =some o→aj P fn c (.ops false all [o] (.any all fuel (listed.setIfInBounds i true)::k)) fr H)∧GD P fn c all fuel listed k fr H r
theorem aaf {all:Array Oper}{fuel:Nat}{listed:Array Bool}{is:List Nat}(h:GD P fn c all fuel listed k fr H is){i:Nat}(aa:i∈is){o:Oper}(ai:all[i]? =some o):aj P fn c (.ops false all [o] (.any all fuel (listed.setIfInBounds i true)::k)) fr H:=by
 induction is with
 |nil=>cases aa
 |cons j r a6=>
  rcases gb.1 aa with rfl|aa
  ·exact h.1 o ai
  ·exact a6 h.2 aa
theorem apW {o:Oper}{a:Act}{K kB:Act→World→Prop}{Q K3:Exit→Act→World→Prop}(dE: ∀a w,K a w→kB a w)(aD: ∀gd a w,Q (.panic gd) a w→K3 (.panic gd) a w)(ai:LetsOut Q→LetsOut K3){r:Result Next}(h:o.upon P a K Q r):o.upon P a kB K3 r:=by
 have bY:= ‹bx›;unfold Oper.upon at*;split at h
 ·exact dE _ _ h
 ·exact dE _ _ h
 ·exact dE _ _ h
 ·refine Calls.mono h fun e alp he=> ?_;cases e with
  |returned v=>exact dE _ _ he
  |panicked gd=>exact aD _ _ _ he
  |outgrown=>exact ai he
 ·exact Rows.mono h fun v alp he=>dE _ _ he
 ·exact aD _ _ _ h
 ·exact h.elim
theorem tO {all:Array Oper}{fuel:Nat}{listed:Array Bool}{is:List Nat}(ad:Region.ready .any all listed=is)(ch:is≠[])(hd:qc fn.ntmps all.toList=true)(h:GD P fn c all fuel listed k fr H is):aj P fn c (.any all (fuel+1) listed k) fr H:=by
 intro w a σ S kl;refine ⟨fun aM=>absurd (ad▸aM) ch,fun i aa=> ?_⟩;rw [ad] at aa;unfold wpOp;split
 ·rename_i aG;rw [←ad] at aa;obtain ⟨_,o,ai,_⟩:=mem_ready.1 aa;rw [aG] at ai;cases ai
 ·rename_i o ai;have U:=aaf h aa ai;have jr:qc fn.ntmps [o]=true:=by
   have eQ:o∈all.toList:=by simpa using Array.mem_of_getElem? ai
   clear U h;generalize all.toList=l at hd eQ;induction l with
   |nil=>cases eQ
   |cons x r a6=>
    simp only [qc,er] at hd⊢;rcases gb.1 eQ with rfl|hm
    ·exact ⟨hd.1,trivial⟩
    ·have:=a6 hd.2 hm;simp only [qc,er] at this;exact this
  have ab:=U jr w a σ S kl;have BV: ∀a w,lift c fn.ntmps (eD P fn c (.any all fuel (listed.setIfInBounds i true)::k)) .normal a w→wpAny P .any all (lift c fn.ntmps (eD P fn c k)) fuel (listed.setIfInBounds i true) a w:=by rintro a w ⟨bC,cb,iu,bK,fU,aD⟩;exact aD w a bC cb fU
  unfold wpList at ab;split
  ·rename_i hw;rw [aB hw] at ab;rcases ab with ab|⟨aW,au⟩
   ·left;unfold Oper.wp at*;exact apW BV (fun _ _ _ h=>h) (fun h=>h) ab
   ·exact .inr ⟨aW,au⟩
  ·rename_i hw;rw [aw hw] at ab;exact BV _ _ ab
theorem lI {all:Array Oper}{fuel:Nat}{listed:Array Bool}(h:aj P fn c (.any all fuel listed k) fr H):aj P fn c (.post .normal (.any all fuel listed::k)) fr H:=h
def qi (all:Array Oper)(j:Nat):Option Nat:=(all[j]?).bind (·.dst)
theorem JM {w:World}{a:Act}{σ:Nat→Option bP}{S:Nat→Prop}{n:Nat}(ad:cd c w a σ S n fr H){all:Array Oper}{d:Option Nat}{op:Op}{ty:TypeId}{pos:String}{after:Array Edge}{j t:Nat}{p b:Bool}(a1:qi all j=some t)(ak:look t fr=some (.bool b)):Region.wanted ⟨d,op,ty,pos,after,some (j,p)⟩ (yielded all a.tmps)=(b==p):=by
 obtain ⟨U,ab⟩:=ad.fl t _ ak;have ay:t<a.tmps.size:=by rw [ad.size];exact U
 generalize bB:a.tmps.getD t undef=z at ab;cases ab;have bc:a.tmps[t]? =some (.bool b):=by simp only [Array.getD,ay,vV] at bB;simp only [Array.getElem?_eq_getElem ay];exact congrArg some bB
 unfold qi at a1;simp only [Region.wanted,yielded,a1,Option.bind_some,bc];cases b<;>cases p<;>rfl
theorem mg {q:Bool}{all:Array Oper}{d:Option Nat}{op:Op}{ty:TypeId}{pos:String}{after:Array Edge}{rest:List Oper}{j t:Nat}{p:Bool}(a1:qi all j=some t)(ak:look t fr=some (.bool p))(h:aj P fn c (.ops q all (⟨d,op,ty,pos,after,none⟩::rest) k) fr H):aj P fn c (.ops q all (⟨d,op,ty,pos,after,some (j,p)⟩::rest) k) fr H:=by
 cases q with
 |false=>
  intro hd w a σ S ad;have U:=h hd w a σ S ad;simp only [wpList,JM ad a1 ak,beq_self_eq_true,gg];simp only [wpList,Region.wanted,gg] at U;exact U
 |true=>
  intro hd w a σ S ad;have U:=h hd w a σ S ad;simp only [wpQuiet,JM ad a1 ak,beq_self_eq_true,gg];simp only [wpQuiet,Region.wanted,gg] at U;exact U
theorem cd.dup {w:World}{a:Act}{σ:Nat→Option bP}{S:Nat→Prop}{n t:Nat}{v:ao}(h:cd c w a σ S n fr H)(au:look t fr=some v):cd c w a σ S n ((t,v)::fr) H:=by
 refine ⟨h.ad,h.bk,h.defers,h.size,fun u y a1=> ?_⟩;simp only [look] at a1;by_cases he:u=t
 ·subst he;simp only [pP,lV,dG] at a1;subst a1;exact h.fl u v au
 ·simp only [dz he,oN] at a1;exact h.fl u y a1
theorem aau {q:Bool}{all:Array Oper}{rest:List Oper}(t:Nat){b:Bool}(ak:look t fr=some (.bool b))(bu:b=true→aj P fn c (.ops q all rest k) ((t,.bool true)::fr) H)(aR:b=false→aj P fn c (.ops q all rest k) ((t,.bool false)::fr) H):aj P fn c (.ops q all rest k) fr H:=by
 cases b with
 |true=>cases q with
  |true=>exact fun hd w a σ S ad=>bu rfl hd w a σ S (ad.dup ak)
  |false=>exact fun hd w a σ S ad=>bu rfl hd w a σ S (ad.dup ak)
 |false=>cases q with
  |true=>exact fun hd w a σ S ad=>aR rfl hd w a σ S (ad.dup ak)
  |false=>exact fun hd w a σ S ad=>aR rfl hd w a σ S (ad.dup ak)
theorem amc {q:Bool}{all:Array Oper}{rest:List Oper}(t:Nat){p:Prop}{_:Decidable p}(ak:look t fr=some (.bool (decide p)))(bu:p→aj P fn c (.ops q all rest k) ((t,.bool true)::fr) H)(aR: ¬p→aj P fn c (.ops q all rest k) ((t,.bool false)::fr) H):aj P fn c (.ops q all rest k) fr H:=
 aau t ak (fun h=>bu (DK h)) (fun h=>aR (of_decide_eq_false h))
theorem rM {o:Operand}{x y:Code}(av:bH fr o=some (.bool true))(h:aj P fn c (.code x k) fr H):aj P fn c (.code (.cond o x y) k) fr H:=by intro w a σ S ad;have:=ad.ek av;generalize bB:a.eval o=z at this;cases this;exact wp_cond_true bB (h w a σ S ad)
theorem pd {o:Operand}{x y:Code}(av:bH fr o=some (.bool false))(h:aj P fn c (.code y k) fr H):aj P fn c (.code (.cond o x y) k) fr H:=by intro w a σ S ad;have:=ad.ek av;generalize bB:a.eval o=z at this;cases this;exact wp_cond_false bB (h w a σ S ad)
theorem vx {o:Operand}{x y:Code}{b:Bool}(av:bH fr o=some (.bool b))(bu:b=true→aj P fn c (.code x k) fr H)(aR:b=false→aj P fn c (.code y k) fr H):aj P fn c (.code (.cond o x y) k) fr H:=by
 cases b
 ·exact pd av (aR I)
 ·exact rM av (bu I)
theorem bw {o:Operand}{x y:Code}{p:Prop}{_:Decidable p}(av:bH fr o=some (.bool (decide p)))(bu:p→aj P fn c (.code x k) fr H)(aR: ¬p→aj P fn c (.code y k) fr H):aj P fn c (.code (.cond o x y) k) fr H:=
 vx av (fun h=>bu (DK h)) (fun h=>aR (of_decide_eq_false h))
def jm (fr:Fr):List (Nat×ao)→Prop
 |[]=>True
 |(t,v)::r=>look t fr=some v∧jm fr r
theorem Fw {fr L:Fr}{t:Nat}{v:ao}(h:jm fr L)(au:look t L=some v):look t fr=some v:=by
 have bY:= ‹bx›;induction L with
 |nil=>simp [look] at au
 |cons p r a6=>
  obtain ⟨u,x⟩:=p;obtain ⟨U,ab⟩:=h;simp only [look] at au;by_cases he:t=u
  ·subst he;simp at au;subst au;exact U
  ·have ak:Nat.beq t u=false:=dz he;simp [ak] at au;exact a6 ab au
theorem cd.weaken {w:World}{a:Act}{σ:Nat→Option bP}{S:Nat→Prop}{n:Nat}{L:Fr}(h:cd c w a σ S n fr H)(an:jm fr L):cd c w a σ S n L H:=
 ⟨h.ad,h.bk,h.defers,h.size,fun t v au=>h.fl t v (Fw an au)⟩
theorem cF {ι:Type}{x:Code}(Il:ι→Fr)(aD:ι→aY)(bU:ι→Prop)(zb:ι→Nat)(i0:ι)(aM:jm fr (Il i0)∧H=aD i0∧bU i0)(round: ∀i,bU i→aj P fn c (.code x (.inv (fun iu bK=> ∃j,bU j∧zb j<zb i∧jm iu (Il j)∧bK=aD j)::k)) (Il i) (aD i)):
 aj P fn c (.code (.loop x) k) fr H:=by
 intro w a σ S ad;refine ama (c:=x) (fun j a w=>bU j∧ ∃σ S,cd c w a σ S fn.ntmps (Il j) (aD j)) zb i0 ⟨aM.2.2,σ,S,?_⟩ ?_
 ·have:=ad.weaken aM.1;rw [aM.2.1] at this;exact this
 ·rintro i a w ⟨aa,σ,S,ad⟩;refine wp_mono (round i aa w a σ S ad) ?_;rintro e ly w' ⟨bC,cb,iu,bK,fU,sv⟩;cases e with
  |normal=>
   obtain ⟨j,ae,hm,an,rfl⟩:=sv;exact ⟨j,⟨ae,bC,cb,fU.weaken an⟩,hm⟩
  |exit id=>exact ⟨bC,cb,iu,bK,fU,sv⟩
  |goto l=>exact ⟨bC,cb,iu,bK,fU,sv⟩
  |ret=>exact ⟨bC,cb,iu,bK,fU,sv⟩
  |panic gd=>exact ⟨bC,cb,iu,bK,fU,sv⟩
  |outgrown=>exact ⟨bC,cb,iu,bK,fU,sv⟩
end
end Go.aj
namespace Go.aj
variable [bx]
open Go.RowKit
section
variable {ind:Bool}{P:Program}{fn:Func}{c:Ctx}{fr:Fr}{H:aY}
theorem cd.fq {w:World}{a:Act}{σ:Nat→Option bP}{S:Nat→Prop}{n:Nat}(h:cd c w a σ S n fr H){o:Operand}{k:IntKind}{x:Int}(af:bH fr o=some (.int k x)):a.eval o= .int k x:=by have:=h.ek af;generalize a.eval o=z at this;cases this;rfl
theorem cd.Bw {w:World}{a:Act}{σ:Nat→Option bP}{S:Nat→Prop}{n:Nat}(h:cd c w a σ S n fr H){o:Operand}{x:Bool}(af:bH fr o=some (.bool x)):a.eval o= .bool x:=by have:=h.ek af;generalize a.eval o=z at this;cases this;rfl
theorem cd.wv {w:World}{a:Act}{σ:Nat→Option bP}{S:Nat→Prop}{n:Nat}(h:cd c w a σ S n fr H){o:Operand}{x:List UInt8}(af:bH fr o=some (.str x)):a.eval o=pD x:=by have:=h.ek af;generalize a.eval o=z at this;cases this;rfl
variable {d:Option Nat}{ty:TypeId}{pos:String}{after:Array Edge}{g:Option (Nat×Bool)}
theorem Gh (s:List UInt8):(⟨s.toArray⟩:ByteArray).size=s.length:=by have bY:= ‹bx›;show s.toArray.size=_;simp
theorem bD {x:Operand}{v:ao}(al:bH fr x=some v):bZ ind P fn c fr H ⟨d,.move x,ty,pos,after,g⟩ v:=
 fun _ a _ _ ad=>⟨a.eval x,ad.ek al,fun _ _=>rfl⟩
theorem dC {x:Operand}{v:ao}(al:bH fr x=some v):bZ ind P fn c fr H ⟨d,.assign x,ty,pos,after,g⟩ v:=
 fun _ a _ _ ad=>⟨a.eval x,ad.ek al,fun _ _=>rfl⟩
theorem mH {x y z:Operand}{b:Bool}{v:ao}(al:bH fr x=some (.bool b))(af:(bif b then bH fr y else bH fr z)=some v):bZ ind P fn c fr H ⟨d,.pick x y z,ty,pos,after,g⟩ v:=by
 intro w a σ S ad;have U:=ad.Bw al;cases b with
 |true=>exact ⟨a.eval y,ad.ek af,fun w' _=>by simp [execOp,U,asBool]⟩
 |false=>exact ⟨a.eval z,ad.ek af,fun w' _=>by simp [execOp,U,asBool]⟩
theorem oz {op:BinOp}{t:TypeId}{x y:Operand}{k c1:IntKind}{m n:Int}{w:World}:(eqGuard op t x y (.int k m) (.int c1 n)).run P w= .ok () w:=by have bY:= ‹bx›;unfold eqGuard;split<;>rfl
theorem hE {x y:Operand}{t cC:TypeId}{m n:Int}(al:bH fr x=some (.int .i64 m))(a1:bH fr y=some (.int .i64 n))(ak: -9223372036854775808≤m+n∧m+n≤9223372036854775807):
 bZ ind P fn c fr H ⟨d,.binOp .add t x y cC,ty,pos,after,g⟩ (.int .i64 (m+n)):=by intro w a σ S ad;have U:=ad.fq al;have ab:=ad.fq a1;refine ⟨_,.int _ _ _,fun w' _=> ?_⟩;have ay:IntKind.i64.wrap (m+n)=m+n:=IntWalk.i64_in _ ak;simp [execOp,U,ab,oz,binOp,Op.intArith,ay]
theorem q0 {x y:Operand}{t cC:TypeId}{m n:Int}(al:bH fr x=some (.int .i64 m))(a1:bH fr y=some (.int .i64 n))(ak: -9223372036854775808≤m-n∧m-n≤9223372036854775807):
 bZ ind P fn c fr H ⟨d,.binOp .sub t x y cC,ty,pos,after,g⟩ (.int .i64 (m-n)):=by intro w a σ S ad;have U:=ad.fq al;have ab:=ad.fq a1;refine ⟨_,.int _ _ _,fun w' _=> ?_⟩;have ay:IntKind.i64.wrap (m-n)=m-n:=IntWalk.i64_in _ ak;simp [execOp,U,ab,oz,binOp,Op.intArith,ay]
theorem Iz {x y:Operand}{t cC:TypeId}{m n:Int}(al:bH fr x=some (.int .i64 m))(a1:bH fr y=some (.int .i64 n))(ak: -9223372036854775808≤m*n∧m*n≤9223372036854775807):
 bZ ind P fn c fr H ⟨d,.binOp .mul t x y cC,ty,pos,after,g⟩ (.int .i64 (m*n)):=by intro w a σ S ad;have U:=ad.fq al;have ab:=ad.fq a1;refine ⟨_,.int _ _ _,fun w' _=> ?_⟩;have ay:IntKind.i64.wrap (m*n)=m*n:=IntWalk.i64_in _ ak;simp [execOp,U,ab,oz,binOp,Op.intArith,ay]
theorem Qi {op:BinOp}{x y:Operand}{t cC:TypeId}{k:IntKind}{m n:Int}(al:bH fr x=some (.int k m))(a1:bH fr y=some (.int k n)){r:Int}(ai:(match op with| .add=>some (k.wrap (m+n))| .sub=>some (k.wrap (m-n))| .mul=>some (k.wrap (m*n))|_=>none)=some r):
 bZ ind P fn c fr H ⟨d,.binOp op t x y cC,ty,pos,after,g⟩ (.int k r):=by intro w a σ S ad;have U:=ad.fq al;have ab:=ad.fq a1;refine ⟨_,.int _ _ _,fun w' _=> ?_⟩;cases op<;>simp at ai<;>subst ai<;>simp [execOp,U,ab,oz,binOp,Op.intArith]
theorem aiX {x y:Operand}{t cC:TypeId}{m n:Int}(al:bH fr x=some (.int .i64 m))(a1:bH fr y=some (.int .i64 n))(ak:0≤m∧m≤9223372036854775807∧0<n):
 bZ ind P fn c fr H ⟨d,.binOp .quo t x y cC,ty,pos,after,g⟩ (.int .i64 (m/n)):=by intro w a σ S ad;have U:=ad.fq al;have ab:=ad.fq a1;refine ⟨_,.int _ _ _,fun w' _=> ?_⟩;have aG: ¬n=0:=J;have bc:m.tdiv n=m/n:=Int.tdiv_eq_ediv_of_nonneg ak.1;have bI:0≤m/n:=Int.ediv_nonneg ak.1 J;have db:m/n≤m:=Int.ediv_le_self _ ak.1;have ay:IntKind.i64.wrap (m/n)=m/n:=IntWalk.i64_in _ ⟨J,J⟩;simp [execOp,U,ab,oz,binOp,Op.intDiv,aG,bc,ay]
theorem aiZ {x y:Operand}{t cC:TypeId}{k:IntKind}{m n:Int}(al:bH fr x=some (.int k m))(a1:bH fr y=some (.int k n))(ak:0≤m∧ ¬n=0):
 bZ ind P fn c fr H ⟨d,.binOp .rem t x y cC,ty,pos,after,g⟩ (.int k (m%n)):=by intro w a σ S ad;have U:=ad.fq al;have ab:=ad.fq a1;refine ⟨_,.int _ _ _,fun w' _=> ?_⟩;have bc:m.tmod n=m%n:=Int.tmod_eq_emod_of_nonneg ak.1;simp [execOp,U,ab,oz,binOp,Op.intDiv,ak.2,bc]
theorem aiY {x y:Operand}{t cC:TypeId}{k:IntKind}{m n:Int}(al:bH fr x=some (.int k m))(a1:bH fr y=some (.int k n))(ak: ¬n=0):
 bZ ind P fn c fr H ⟨d,.binOp .quo t x y cC,ty,pos,after,g⟩ (.int k (k.wrap (m.tdiv n))):=by intro w a σ S ad;have U:=ad.fq al;have ab:=ad.fq a1;refine ⟨_,.int _ _ _,fun w' _=> ?_⟩;simp [execOp,U,ab,oz,binOp,Op.intDiv,ak]
instance (m n:Int):Decidable (¬m=n):=inferInstance
section
variable {x y:Operand}{t cC:TypeId}{k:IntKind}{m n:Int}(al:bH fr x=some (.int k m))(a1:bH fr y=some (.int k n))
include al a1
theorem nV:bZ ind P fn c fr H ⟨d,.binOp .eql t x y cC,ty,pos,after,g⟩ (.bool (decide (m=n))):=by intro w a σ S ad;refine ⟨_,.bool _ _,fun w' _=> ?_⟩;simp [execOp,ad.fq al,ad.fq a1,oz,binOp,Op.intCmp];rfl
theorem rZ:bZ ind P fn c fr H ⟨d,.binOp .neq t x y cC,ty,pos,after,g⟩ (.bool (decide (¬m=n))):=by intro w a σ S ad;refine ⟨_,.bool _ _,fun w' _=> ?_⟩;simp [execOp,ad.fq al,ad.fq a1,oz,binOp,Op.intCmp];by_cases h:m=n<;>simp [h]
theorem rY:bZ ind P fn c fr H ⟨d,.binOp .lss t x y cC,ty,pos,after,g⟩ (.bool (decide (m<n))):=by intro w a σ S ad;refine ⟨_,.bool _ _,fun w' _=> ?_⟩;simp [execOp,ad.fq al,ad.fq a1,oz,binOp,Op.intCmp]
theorem TT:bZ ind P fn c fr H ⟨d,.binOp .leq t x y cC,ty,pos,after,g⟩ (.bool (decide (m≤n))):=by intro w a σ S ad;refine ⟨_,.bool _ _,fun w' _=> ?_⟩;simp [execOp,ad.fq al,ad.fq a1,oz,binOp,Op.intCmp]
theorem A7:bZ ind P fn c fr H ⟨d,.binOp .gtr t x y cC,ty,pos,after,g⟩ (.bool (decide (n<m))):=by intro w a σ S ad;refine ⟨_,.bool _ _,fun w' _=> ?_⟩;simp [execOp,ad.fq al,ad.fq a1,oz,binOp,Op.intCmp]
theorem A6:bZ ind P fn c fr H ⟨d,.binOp .geq t x y cC,ty,pos,after,g⟩ (.bool (decide (n≤m))):=by intro w a σ S ad;refine ⟨_,.bool _ _,fun w' _=> ?_⟩;simp [execOp,ad.fq al,ad.fq a1,oz,binOp,Op.intCmp]
end
theorem vM {x:Operand}{t:TypeId}{b:Bool}(al:bH fr x=some (.bool b)):bZ ind P fn c fr H ⟨d,.unOp .not t x,ty,pos,after,g⟩ (.bool (!b)):=by intro w a σ S ad;refine ⟨_,.bool _ _,fun w' _=> ?_⟩;simp [execOp,ad.Bw al,Op.unary]
theorem TV {x:Operand}{t:TypeId}{m:Int}(al:bH fr x=some (.int .i64 m))(ak: -9223372036854775807≤m∧m≤9223372036854775807):bZ ind P fn c fr H ⟨d,.unOp .neg t x,ty,pos,after,g⟩ (.int .i64 (-m)):=by
 intro w a σ S ad;refine ⟨_,.int _ _ _,fun w' _=> ?_⟩;have ay:IntKind.i64.wrap (0-m)= -m:=by rw [IntWalk.i64_in _ ⟨J,J⟩];omega
 simp [execOp,ad.fq al,Op.unary,Op.intArith];simpa using ay
theorem Qy {x:Operand}{src dst:TypeId}{k c1:IntKind}{u:TypeDesc}{m:Int}(az:P.underlying src=some u)(hd:P.underlying dst=some (.int c1))(al:bH fr x=some (.int k m)):
 bZ ind P fn c fr H ⟨d,.convert src dst x,ty,pos,after,g⟩ (.int c1 (c1.wrap m)):=by intro w a σ S ad;refine ⟨_,.int _ _ _,fun w' _=> ?_⟩;cases u<;>simp [execOp,ad.fq al,convert,run_underlying az,run_underlying hd,Conv.intToInt]
theorem AK {x:Operand}{src dst:TypeId}{k:IntKind}{u:TypeDesc}{m:Int}(az:P.underlying src=some u)(hd:P.underlying dst=some (.int .i64))(al:bH fr x=some (.int k m))(ak: -9223372036854775808≤m∧m≤9223372036854775807):
 bZ ind P fn c fr H ⟨d,.convert src dst x,ty,pos,after,g⟩ (.int .i64 m):=by
 have ay:IntKind.i64.wrap m=m:=IntWalk.i64_in _ ak;have:=Qy (ind:=ind) (P:=P) (fn:=fn) (c:=c) (fr:=fr) (H:=H) (d:=d) (ty:=ty) (pos:=pos) (after:=after) (g:=g) (x:=x) (src:=src) (dst:=dst) az hd al
 rwa [ay] at this
theorem nP {x:Operand}{i:Nat}{l:List ao}{v:ao}(al:bH fr x=some (.ck l))(af:l[i]? =some v):bZ ind P fn c fr H ⟨d,.extract x i,ty,pos,after,g⟩ v:=by
 intro w a σ S ad;have U:=ad.ek al;generalize bB:a.eval x=z at U;cases U with
 |ck _ _ vs au ry=>
  have aa:i<l.length:=(gZ.1 af).1;have ab:=ry i aa;have ay:l.getD i .any=v:=by simp [List.getD,af]
  rw [ay] at ab;have bc:vs[i]? =some (vs.getD i undef):=by simp [Array.getD,au,aa]
  generalize vs.getD i undef=y at ab bc;refine ⟨y,ab,fun w' _=> ?_⟩;simp [execOp,bB,Instr.extract,bc]
theorem gm {x:Operand}{t:TypeId}{e:TypeId}{v:ao}{n:Nat}(bu:P.underlying t=some (.slice e))(al:bH fr x=some v)(aG:(match v with| .ro _ _ n=>some n| .aC _ _ n=>some n| .nil=>some 0|_=>none)=some n):
 bZ ind P fn c fr H ⟨d,.call {callee:= .builtin .len,args:= #[x],argTypes:= #[t]},ty,pos,after,g⟩ (.int .i64 n):=by intro w a σ S ad;have U:=ad.ek al;generalize bB:a.eval x=z at U;refine ⟨_,.int _ _ _,fun w' _=> ?_⟩;cases U<;>simp at aG<;>subst aG<;>simp [execOp,resolve,bB,invoke,builtin,Builtin.len_,run_underlying bu,goInt]
theorem C3 {x:Operand}{t:TypeId}{s:List UInt8}(bu:P.underlying t=some .string)(al:bH fr x=some (.str s)):
 bZ ind P fn c fr H ⟨d,.call {callee:= .builtin .len,args:= #[x],argTypes:= #[t]},ty,pos,after,g⟩ (.int .i64 s.length):=by intro w a σ S ad;have U:=ad.wv al;refine ⟨_,.int _ _ _,fun w' _=> ?_⟩;have ab:(⟨s.toArray⟩:ByteArray).size=s.length:=Gh s;simp [execOp,resolve,U,pD,invoke,builtin,Builtin.len_,run_underlying bu,goInt,ab]
theorem anX {x i:Operand}{t e:TypeId}{eb:Cells}{o len:Nat}{k:IntKind}{m:Int}(bu:P.underlying t=some (.slice e))(az:(P.info? e).map (·.size)=some eb.aI)(al:bH fr x=some (.ro eb o len))(aa:bH fr i=some (.int k m))(ak:0≤m∧m<len):
 bZ ind P fn c fr H ⟨d,.indexAddr t x i,ty,pos,after,g⟩ (.cK eb (o+m.toNat) 0):=by
 intro w a σ S ad;have U:=ad.ek al;have ab:=ad.fq aa;generalize bB:a.eval x=z at U;cases U with
 |ko=>omega
 |ro _ _ _ _ b of cap val dm hlen av af gF=>
  have Mo:m.toNat<len:=J;refine ⟨.pointer (some ⟨b,of+m.toNat*eb.aI,none⟩),.cK _ _ _ _ _ _ (fun e=>val m.toNat e) dm (fun e he=> ?_) (fun e he=> ?_) (fun e he=>gF m.toNat e Mo (by simpa using he)),fun w' _=> ?_⟩
  ·simp only [cR] at he;exact av m.toNat e Mo he
  ·simp only [cR] at he⊢;exact af m.toNat e Mo he
  ·cases aA:P.info? e with
   |none=>simp [aA] at az
   |some inf=>
    have cy:inf.size=eb.aI:=by simpa [aA] using az
    simp [execOp,bB,ab,Instr.indexAt,asIntOf,run_underlying bu,ak,sizeOf,typeInfo,aA,cy,Addr.add_lit]
theorem anY {x i:Operand}{t e:TypeId}{h o len:Nat}{bg:bm}{k:IntKind}{m:Int}(bu:P.underlying t=some (.slice e))(al:bH fr x=some (.aC h o len))(aX:H[h]? =some (some bg))(az:(P.info? e).map (·.size)=some bg.c.aI)(aa:bH fr i=some (.int k m))(ak:0≤m∧m<len):
 bZ ind P fn c fr H ⟨d,.indexAddr t x i,ty,pos,after,g⟩ (.ptr h (o+m.toNat) 0):=by
 intro w a σ S ad;have U:=ad.ek al;have ab:=ad.fq aa;generalize bB:a.eval x=z at U;cases U with
 |iD=>omega
 |aC _ _ _ _ b s C cap bL hlen kh=>
  rcases ad.ad.live h bg aX with ⟨aG,_⟩|⟨b',cM,cur,fG,ay⟩
  ·rw [bL] at aG;cases aG
  ·rw [bL] at fG;simp only [dG,bP.at.injEq] at fG;obtain ⟨rfl,rfl,rfl⟩:=fG;refine ⟨_,.ptr _ h (o+m.toNat) 0 b bg.c.aI C bL,fun w' _=> ?_⟩;cases aA:P.info? e with
   |none=>simp [aA] at az
   |some inf=>
    have cy:inf.size=bg.c.aI:=by simpa [aA] using az
    simp [execOp,bB,ab,Instr.indexAt,asIntOf,run_underlying bu,ak,sizeOf,typeInfo,aA,cy,Addr.add_lit,eF]
def jy:TypeDesc→Bool
 | .struct _=>true
 | .array _ _=>true
 |_=>false
theorem yR {t:TypeId}{u:TypeDesc}{w:World}(bu:P.underlying t=some u):(isAgg t).run P w= .ok (jy u) w:=by have bY:= ‹bx›;unfold isAgg;simp only [Sem.run_bind,run_underlying bu,Result.andThen_ok];cases u<;>rfl
theorem JG {x:Operand}{t:TypeId}{u:TypeDesc}{eb:Cells}{i j:Nat}{v:ao}(bu:P.underlying t=some u)(hu:jy u=false)(al:bH fr x=some (.cK eb i j))(ae:Nat.blt j eb.aI=true)(af:eb.at i j=v):
 bZ false P fn c fr H ⟨d,.load t x,ty,pos,after,g⟩ v:=by
 intro w a σ S ad;have U:=ad.ek al;generalize bB:a.eval x=z at U;cases U with
 |cK _ _ _ _ b o val dm av iy gF=>
  have bd:j+0<eb.aI:=iZ ae;have ab:=iy 0 bd;have ay:=av 0 bd;simp only [fg,af] at ab ay;refine ⟨val 0,ab.mono (fun _ h=>h) (fun _ _=>rfl) _ (fun _ _ h=>by cases h),fun w' hw=> ?_⟩;have hw:=hw.resolve_left aT;have bc:w'.cell? ⟨b,o,none⟩=some (val 0):=by rw [←ay];exact World.cell?_of_block (by rw [hw])
  simp [execOp,bB,Instr.loadAt,Instr.sureAddr,loadVar,yR bu,hu,load,Sem.run,bc]
theorem Jm {x:Operand}{t:TypeId}{u:TypeDesc}{h i j:Nat}{bg:bm}{v:ao}(bu:P.underlying t=some u)(hu:jy u=false)(al:bH fr x=some (.ptr h i j))(aX:H[h]? =some (some bg))(ae:Nat.blt j bg.c.aI=true)(af:bg.c.at i j=v)(aa:i<bg.c.len):
 bZ false P fn c fr H ⟨d,.load t x,ty,pos,after,g⟩ v:=by
 intro w a σ S ad;have U:=ad.ek al;generalize bB:a.eval x=z at U;cases U with
 |ptr _ _ _ _ b s C bL=>
  rcases ad.ad.live h bg aX with ⟨aG,_⟩|⟨b',cM,cur,fG,ay,bc,bI,db,fh,oZ⟩
  ·rw [bL] at aG;cases aG
  ·rw [bL] at fG;simp only [dG,bP.at.injEq] at fG;obtain ⟨rfl,rfl,rfl⟩:=fG;obtain ⟨y,agA,Ta,arq⟩:=oZ i j aa (iZ ae);obtain ⟨mk,ay,_,_⟩:=ay.cells (by have:=iZ ae;omega);rw [af] at Ta;refine ⟨y,Ta,fun w' hw=> ?_⟩;have hw:=hw.resolve_left aT;have ld:w'.cell? ⟨b,i*bg.c.aI+j,none⟩=some y:=by simp [World.cell?,hw,ay,agA]
   simp [execOp,bB,Instr.loadAt,Instr.sureAddr,loadVar,yR bu,hu,load,Sem.run,ld]
end
end Go.aj
namespace Go.aj
variable [bx]
open Go.RowKit
def Cells.Aq:Cells→Nat→Nat→ao→Option Cells
 | .ints k l,i,_,v=>match v with
  | .int c1 n=>match k,c1 with
   | .i64,.i64=>some (.ints k (l.set i n))
   | .u8,.u8=>some (.ints k (l.set i n))
   | .u64,.u64=>some (.ints k (l.set i n))
   | .i32,.i32=>some (.ints k (l.set i n))
   | .u32,.u32=>some (.ints k (l.set i n))
   |_,_=>none
  |_=>none
 | .strs l,i,_,v=>match v with
  | .str s=>some (.strs (l.set i s))
  |_=>none
 | .box l,_,j,v=>some (.box (l.set j v))
 | .mp _ _,_,_,_=>none
 | .fn n s f,i,j,v=>some (.fn n s (fun aK ba=>bif Nat.beq aK i && Nat.beq ba j then v else f aK ba))
def ao.one:ao→Bool
 | .agg _=>false
 | .ck _=>false
 | .any=>false
 |_=>true
theorem bz.one {w:World}{S:Nat→Prop}{σ:Nat→Option bP}{x:ao}{v:Value}(h:bz w S σ x v)(al:x.one=true):v.oneCell'=true:=by have bY:= ‹bx›;cases h<;>first|rfl|cases al
theorem Cells.alb {c c':Cells}{i j:Nat}{v:ao}(h:c.Aq i j v=some c'):c'.len=c.len∧c'.aI=c.aI∧ ∀aK ba,aK<c.len→ba<c.aI→i<c.len→j<c.aI→c'.at aK ba=if aK=i∧ba=j then v else c.at aK ba:=by
 have bY:= ‹bx›;cases c with
 |ints k l=>
  have: ∃n,v= .int k n∧c'= .ints k (l.set i n):=by
   cases v<;>simp only [Cells.Aq] at h<;>try (cases h;done)
   rename_i c1 n;cases k<;>cases c1<;>simp at h<;>exact ⟨n,rfl,h.symm⟩
  obtain ⟨n,rfl,rfl⟩:=this;refine ⟨by simp [Cells.len],I,fun aK ba aa ae mA lC=> ?_⟩;simp only [Cells.len,Cells.aI] at aa ae mA lC;have aE:ba=0:=J;have aF:j=0:=J;subst aE aF;simp only [Cells.at,and_true];by_cases he:aK=i
  ·subst he;simp [List.getD,aa]
  ·have: ¬i=aK:=fun e=>he e.symm;simp [List.getD,he,this]
 |strs l=>
  have: ∃n,v= .str n∧c'= .strs (l.set i n):=by
   cases v<;>simp only [Cells.Aq] at h<;>try (cases h;done)
   exact ⟨_,I,(oO h).symm⟩
  obtain ⟨n,rfl,rfl⟩:=this;refine ⟨by simp [Cells.len],I,fun aK ba aa ae mA lC=> ?_⟩;simp only [Cells.len,Cells.aI] at aa ae mA lC;have aE:ba=0:=J;have aF:j=0:=J;subst aE aF;simp only [Cells.at,and_true];by_cases he:aK=i
  ·subst he;simp [List.getD,aa]
  ·have: ¬i=aK:=fun e=>he e.symm;simp [List.getD,he,this]
 |box l=>
  simp only [Cells.Aq,dG] at h;subst h;refine ⟨I,by simp [Cells.aI],fun aK ba aa ae mA lC=> ?_⟩;simp only [Cells.len,Cells.aI] at aa ae mA lC;have aE:aK=0:=J;have aF:i=0:=J;subst aE aF;simp only [Cells.at,true_and];by_cases he:ba=j
  ·subst he;simp [List.getD,ae]
  ·have: ¬j=ba:=fun e=>he e.symm;simp [List.getD,he,this]
 |fn n s f=>
  simp only [Cells.Aq,dG] at h;subst h;refine ⟨I,I,fun aK ba aa ae mA lC=> ?_⟩;simp only [Cells.at];by_cases he:aK=i
  ·subst he;by_cases ki:ba=j
   ·subst ki;simp
   ·simp [dz ki,ki]
  ·simp [dz he,he]
 |mp ks vs=>cases h
theorem cd.obj {c:Ctx}{w:World}{a:Act}{σ:Nat→Option bP}{S:Nat→Prop}{n:Nat}{fr:Fr}{H:aY}(ad:cd c w a σ S n fr H){h b s C:Nat}{o:bm}(aX:H[h]? =some (some o))(bL:σ h=some (.at b s C)):
 s=o.c.aI∧ ∃cur,Lays w S σ o b cur C∧cur.size=C*o.c.aI∧C≤maxLen+1∧o.c.len≤C∧ ¬S b∧
  ∀i j,i<o.c.len→j<o.c.aI→ ∃v,cur[i*o.c.aI+j]? =some v∧bz w S σ (o.c.at i j) v∧v.oneCell'=true:=by
 rcases ad.ad.live h o aX with ⟨aG,_⟩|⟨b',cM,cur,fG,ay⟩
 ·rw [bL] at aG;cases aG
 ·rw [bL] at fG;simp only [dG,bP.at.injEq] at fG;obtain ⟨rfl,rfl,rfl⟩:=fG;exact ⟨I,cur,ay⟩
theorem cd.setRow {c:Ctx}{w:World}{a:Act}{σ:Nat→Option bP}{S:Nat→Prop}{n:Nat}{fr:Fr}{H:aY}(ad:cd c w a σ S n fr H){h b s C:Nat}{o:bm}(aX:H[h]? =some (some o))(bL:σ h=some (.at b s C)){c':Cells}{cur':Array Value}(lD:C≤maxLen)(cy:c'.aI=o.c.aI)(hlen:c'.len≤C)(jq:cur'.size=C*o.c.aI)(av: ∀i j,i<c'.len→j<c'.aI→ ∃v,cur'[i*c'.aI+j]? =some v∧bz w S σ (c'.at i j) v∧v.oneCell'=true):
 cd c (w.setRow b cur') a σ S n fr (H.set h (some ⟨o.ty,c'⟩)):=by
 obtain ⟨az,cur,U,ab,ay,bc,bI,db⟩:=ad.obj aX bL;obtain ⟨mk,U,lj⟩:=U.oY lD;have bG:h<H.length:=(gZ.1 aX).1;have dm: ∀b',S b'→(w.setRow b cur').heap[b']? =w.heap[b']? :=fun b' ak=>setRow_other w b b' cur' (fun e=>bI (e▸ak));have af: ∀{bC:Nat→Option bP} {x v},bz w S bC x v→bz (w.setRow b cur') S bC x v:=fun h=>h.mono (fun _ h=>h) dm _ (fun _ _ h=>h);have c7: ∀aS o',(H.set h (some ⟨o.ty,c'⟩))[aS]? =some (some o')→(aS=h∧o'=⟨o.ty,c'⟩)∨(aS≠h∧H[aS]? =some (some o')):=by
  intro aS o' ai;by_cases he:aS=h
  ·subst he;simp only [oP bG,dG] at ai;exact .inl ⟨I,ai.symm⟩
  ·rw [lW (ra he)] at ai;exact .inr ⟨he,ai⟩
 have tB:=ad.bk.own h o b s C aX bL;refine ⟨⟨?_,?_,fun b' ak=>by rw [setRow_size];exact ad.ad.small b' ak,fun aS au=>ad.ad.ie aS (by simpa using au)⟩,?_,ad.defers,ad.size,fun t v au=>⟨(ad.fl t v au).1,af (ad.fl t v au).2⟩⟩
 ·intro aS o' ai;rcases c7 aS o' ai with ⟨rfl,rfl⟩|⟨ch,cN⟩
  ·right;refine ⟨b,C,cur',?_,.row mk (setRow_heap w b cur cur' _ _ U) (by rw [jq,←ab];exact lj) lD,by simpa [cy] using jq,ay,hlen,bI,fun i j aa ae=> ?_⟩
   ·rw [bL,az,cy]
   ·obtain ⟨v,aE,aF,bO⟩:=av i j aa ae;exact ⟨v,aE,af aF,bO⟩
  ·rcases ad.ad.live aS o' cN with aG|⟨b',cM,ja,g1,g2,g3,g4,g5,g6,g7⟩
   ·exact .inl aG
   ·right;have rq:b'≠b:=fun e=>ch (ad.ad.hB aS h o' o b' o'.c.aI cM s C cN aX g1 (by rw [bL,e]));refine ⟨b',cM,ja,g1,g2.mono (setRow_other w b b' cur' rq) af,g3,g4,g5,g6,fun i j aa ae=> ?_⟩;obtain ⟨v,aE,aF,bO⟩:=g7 i j aa ae;exact ⟨v,aE,af aF,bO⟩
 ·intro gF wA o1 o2 b' s1 gL s2 gx g1 g2 aE aF;have t1: ∃o,H[gF]? =some (some o):=by
   rcases c7 gF o1 g1 with ⟨rfl,_⟩|⟨_,g⟩
   ·exact ⟨_,aX⟩
   ·exact ⟨_,g⟩
  have t2: ∃o,H[wA]? =some (some o):=by
   rcases c7 wA o2 g2 with ⟨rfl,_⟩|⟨_,g⟩
   ·exact ⟨_,aX⟩
   ·exact ⟨_,g⟩
  obtain ⟨_,t1⟩:=t1;obtain ⟨_,t2⟩:=t2;exact ad.ad.hB gF wA _ _ b' s1 gL s2 gx t1 t2 aE aF
 ·refine ⟨ad.bk.os,ad.bk.output,ad.bk.tape,by rw [setRow_size];exact ad.bk.size,fun b' ak ai=> ?_,ad.bk.hV,ad.bk.fb,ad.bk.fixed,fun aS aR=>by simpa using ad.bk.jF aS aR,?_⟩
  ·have rq:b'≠b:=by
    rintro rfl;rcases tB with h|h
    ·exact ai h
    ·omega
   rw [setRow_other w b b' cur' rq];exact ad.bk.block b' ak ai
  ·intro aS o' b' ct cM ai ak;rcases c7 aS o' ai with ⟨rfl,_⟩|⟨_,g⟩
   ·exact ad.bk.own _ _ b' ct cM aX ak
   ·exact ad.bk.own aS o' b' ct cM g ak
def cZ (σ:Nat→Option bP)(h:Nat)(B:bP):Nat→Option bP:=fun aS=>if aS=h then some B else σ aS
theorem cd.aah {c:Ctx}{w:World}{a:Act}{σ:Nat→Option bP}{S:Nat→Prop}{n:Nat}{fr:Fr}{H:aY}(ad:cd c w a σ S n fr H){o:bm}{C:Nat}{cur:Array Value}{mk:Nat×Nat}(hlen:o.c.len≤C)(eh:C≤maxLen)(jq:cur.size=C*o.c.aI)(av: ∀i j,i<o.c.len→j<o.c.aI→ ∃v,cur[i*o.c.aI+j]? =some v∧bz w S σ (o.c.at i j) v∧v.oneCell'=true)(lj:mk.2≤mk.1∨cur.size≤mk.1):
 cd c (w.alloc (.cells cur o.ty mk)) a (cZ σ H.length (.at w.heap.size o.c.aI C)) S n fr (H++[some o]):=by
 have hold: ∀b,b<w.heap.size→(w.alloc (.cells cur o.ty mk)).heap[b]? =w.heap[b]? :=fun b ak=>Below.heap_alloc _ _ b ak;have oj: ∀h B,σ h=some B→cZ σ H.length (.at w.heap.size o.c.aI C) h=some B:=by
  intro h B cf;unfold cZ;split
  ·rename_i he;rw [he,ad.ad.ie _ (bN _)] at cf;cases cf
  ·exact cf
 have af: ∀{x v},bz w S σ x v→bz (w.alloc (.cells cur o.ty mk)) S (cZ σ H.length (.at w.heap.size o.c.aI C)) x v:=
  fun h=>h.mono (fun _ h=>h) (fun b ak=>hold b (ad.ad.small b ak)) _ oj
 have c7: ∀aS o',(H++[some o])[aS]? =some (some o')→(aS=H.length∧o'=o)∨(aS<H.length∧H[aS]? =some (some o')):=by
  intro aS o' ai;by_cases he:aS<H.length
  ·rw [ic he] at ai;exact .inr ⟨he,ai⟩
  ·by_cases ki:aS=H.length
   ·subst ki;simp at ai;exact .inl ⟨rfl,ai.symm⟩
   ·have:(H++[some o]).length≤aS:=by simp;omega
    rw [kD this] at ai;cases ai
 have EX: ∀h o' b s cM,h<H.length→H[h]? =some (some o')→σ h=some (.at b s cM)→b<w.heap.size:=by intro h o' b s cM _ ai ak;obtain ⟨_,ja,g,_⟩:=ad.obj ai ak;exact g.lt
 refine ⟨⟨?_,?_,fun b ak=>by have:=ad.ad.small b ak;simp;omega,fun h au=> ?_⟩,?_,ad.defers,ad.size,fun t v au=>⟨(ad.fl t v au).1,af (ad.fl t v au).2⟩⟩
 ·intro aS o' ai;rcases c7 aS o' ai with ⟨rfl,rfl⟩|⟨bG,cN⟩
  ·right;refine ⟨w.heap.size,C,cur,by simp [cZ],.row mk (heap_alloc_new w _) lj eh,jq,Nat.le_succ_of_le eh,hlen,fun az=>oQ _ (ad.ad.small _ az),fun i j aa ae=> ?_⟩;obtain ⟨v,aE,aF,bO⟩:=av i j aa ae;exact ⟨v,aE,af aF,bO⟩
  ·rcases ad.ad.live aS o' cN with ⟨aG,jH⟩|⟨b',cM,ja,g1,g2,g3,g4,g5,g6,g7⟩
   ·exact .inl ⟨oj _ _ aG,jH⟩
   ·right;refine ⟨b',cM,ja,oj _ _ g1,g2.mono (hold b' g2.lt) af,g3,g4,g5,g6,fun i j aa ae=> ?_⟩;obtain ⟨v,aE,aF,bO⟩:=g7 i j aa ae;exact ⟨v,aE,af aF,bO⟩
 ·intro U ab o1 o2 b s1 gL s2 gx g1 g2 aE aF;rcases c7 U o1 g1 with ⟨rfl,rfl⟩|⟨fH,wx⟩<;>rcases c7 ab o2 g2 with ⟨rfl,rfl⟩|⟨fu,D8⟩
  ·rfl
  ·simp only [cZ,gg,dG,bP.at.injEq] at aE;simp only [cZ,pQ fu,hA] at aF;have:=EX ab o2 b s2 gx fu D8 aF;omega
  ·simp only [cZ,gg,dG,bP.at.injEq] at aF;simp only [cZ,pQ fH,hA] at aE;have:=EX U o1 b s1 gL fH wx aE;omega
  ·simp only [cZ,pQ fH,pQ fu,hA] at aE aF;exact ad.ad.hB U ab o1 o2 b s1 gL s2 gx wx D8 aE aF
 ·simp only [di,gu,k6] at au;have: ¬h=H.length:=J;simp only [cZ,this,hA];exact ad.ad.ie h J
 ·refine ⟨ad.bk.os,ad.bk.output,ad.bk.tape,by have:=ad.bk.size;simp;omega,fun b ak ai=> ?_,ad.bk.hV,ad.bk.fb,fun h aR=> ?_,fun h aR=>by have:=ad.bk.jF h aR;simp;omega,?_⟩
  ·rw [hold b (by have:=ad.bk.size;omega)];exact ad.bk.block b ak ai
  ·have:=ad.bk.jF h aR;have ab: ¬h=H.length:=J;simp only [cZ,ab,hA];exact ad.bk.fixed h aR
  ·intro aS o' b s cM ai ak;rcases c7 aS o' ai with ⟨rfl,rfl⟩|⟨bG,cN⟩
   ·simp only [cZ,gg,dG,bP.at.injEq] at ak;have:=ad.bk.size;omega
   ·simp only [cZ,pQ bG,hA] at ak;exact ad.bk.own aS o' b s cM cN ak
theorem cd.alloc {c:Ctx}{w:World}{a:Act}{σ:Nat→Option bP}{S:Nat→Prop}{n:Nat}{fr:Fr}{H:aY}(ad:cd c w a σ S n fr H){o:bm}{C:Nat}{cur:Array Value}(hlen:o.c.len≤C)(eh:C≤maxLen)(jq:cur.size=C*o.c.aI)(av: ∀i j,i<o.c.len→j<o.c.aI→ ∃v,cur[i*o.c.aI+j]? =some v∧bz w S σ (o.c.at i j) v∧v.oneCell'=true):
 cd c (w.alloc (.cells cur o.ty (0,0))) a (cZ σ H.length (.at w.heap.size o.c.aI C)) S n fr (H++[some o]):=
 ad.aah hlen eh jq av (.inl (bN _))
theorem cd.aai {c:Ctx}{w:World}{a:Act}{σ:Nat→Option bP}{S:Nat→Prop}{n:Nat}{fr:Fr}{H:aY}(ad:cd c w a σ S n fr H)(bg:Obj):
 cd c (w.alloc bg) a σ (fun b=>S b∨b=w.heap.size) n fr H:=by
 have hold: ∀b,b<w.heap.size→(w.alloc bg).heap[b]? =w.heap[b]? :=fun b ak=>Below.heap_alloc _ _ b ak;have af: ∀{bC:Nat→Option bP} {x v},bz w S bC x v→bz (w.alloc bg) (fun b=>S b∨b=w.heap.size) bC x v:=
  fun h=>h.mono (fun _ h=> .inl h) (fun b ak=>hold b (ad.ad.small b ak)) _ (fun _ _ h=>h)
 refine ⟨⟨?_,ad.ad.hB,fun b ak=> ?_,ad.ad.ie⟩,?_,ad.defers,ad.size,fun t v au=>⟨(ad.fl t v au).1,af (ad.fl t v au).2⟩⟩
 ·intro aS o' cN;rcases ad.ad.live aS o' cN with ⟨aG,jH⟩|⟨b',cM,ja,g1,g2,g3,g4,g5,g6,g7⟩
  ·exact .inl ⟨aG,jH⟩
  ·right;have bG:=g2.lt;refine ⟨b',cM,ja,g1,g2.mono (hold b' bG) af,g3,g4,g5,?_,fun i j aa ae=> ?_⟩
   ·rintro (h|h)
    ·exact g6 h
    ·omega
   ·obtain ⟨v,aE,aF,bO⟩:=g7 i j aa ae;exact ⟨v,aE,af aF,bO⟩
 ·rcases ak with h|h
  ·have:=ad.ad.small b h;simp;omega
  ·simp;omega
 ·refine ⟨ad.bk.os,ad.bk.output,ad.bk.tape,by have:=ad.bk.size;simp;omega,fun b ak ai=> ?_,fun b ak=> .inl (ad.bk.hV b ak),fun b ak=> ?_,ad.bk.fixed,ad.bk.jF,ad.bk.own⟩
  ·rw [hold b (by have:=ad.bk.size;omega)];exact ad.bk.block b ak ai
  ·rcases ak with h|h
   ·exact ad.bk.fb b h
   ·have:=ad.bk.size;exact .inr (.inr J)
end Go.aj
namespace Go.aj
variable [bx]
open Go.RowKit
section
variable {P:Program}{fn:Func}{c:Ctx}{fr:Fr}{H:aY}{k:List eO}
theorem uD {all:Array Oper}{d:Nat}{op:Op}{ty:TypeId}{pos:String}{after:Array Edge}{rest:List Oper}{v:ao}{iu:Fr}{bK:aY}(qH: ∀w a σ S,cd c w a σ S fn.ntmps fr H→ ∃x w' bC cb,(execOp a.eval ⟨some d,op,ty,pos,after,none⟩).run P w= .ok (.value x) w'∧cd c w' a bC cb fn.ntmps iu bK∧bz w' cb bC v x)(h:aj P fn c (.ops false all rest k) ((d,v)::iu) bK):aj P fn c (.ops false all (⟨some d,op,ty,pos,after,none⟩::rest) k) fr H:=by intro hd w a σ S ad;obtain ⟨jr,jG⟩:=tW hd;obtain ⟨x,w',bC,cb,eR,fU,al⟩:=qH w a σ S ad;refine wpList_step (fun K dE=> ?_);simp only [Region.wanted,gg];unfold Oper.wp;rw [eR];exact dE _ _ (h jG w' _ bC cb (fU.put al (jr d I)))
theorem Gx {all:Array Oper}{op:Op}{ty:TypeId}{pos:String}{after:Array Edge}{rest:List Oper}{iu:Fr}{bK:aY}(qH: ∀w a σ S,cd c w a σ S fn.ntmps fr H→ ∃w' bC cb,(execOp a.eval ⟨none,op,ty,pos,after,none⟩).run P w= .ok .skip w'∧cd c w' a bC cb fn.ntmps iu bK)(h:aj P fn c (.ops false all rest k) iu bK):aj P fn c (.ops false all (⟨none,op,ty,pos,after,none⟩::rest) k) fr H:=by intro hd w a σ S ad;obtain ⟨_,jG⟩:=tW hd;obtain ⟨w',bC,cb,eR,fU⟩:=qH w a σ S ad;refine wpList_step (fun K dE=> ?_);simp only [Region.wanted,gg];unfold Oper.wp;rw [eR];exact dE _ _ (h jG w' _ bC cb fU)
theorem AO {t:TypeId}{s:Nat}{w:World}(az:(P.info? t).map (·.size)=some s):(sizeOf t).run P w= .ok s w:=by
 have bY:= ‹bx›;cases aA:P.info? t with
 |none=>simp [aA] at az
 |some i=>simp [aA] at az;subst az;simp [sizeOf,typeInfo,aA]
theorem lL {all:Array Oper}{t:TypeId}{x y:Operand}{ty:TypeId}{pos:String}{after:Array Edge}{rest:List Oper}{h i j:Nat}{bg:bm}{v:ao}{c':Cells}(al:bH fr x=some (.ptr h i j))(a1:bH fr y=some v)(z6:v.one=true)(az:(P.info? t).map (·.size)=some 1)(aX:H[h]? =some (some bg))(ae:Nat.blt j bg.c.aI=true)(hu:bg.c.Aq i j v=some c')(aa:i<bg.c.len)(an:aj P fn c (.ops false all rest k) fr (H.set h (some ⟨bg.ty,c'⟩))):aj P fn c (.ops false all (⟨none,.store t x y,ty,pos,after,none⟩::rest) k) fr H:=by
 refine Gx (fun w a σ S ad=> ?_) an;have U:=ad.ek al;have ab:=ad.ek a1;have bd:j<bg.c.aI:=iZ ae;generalize bB:a.eval x=z at U;generalize nf:a.eval y=u at ab;have Mv:=ab.one z6;cases U with
 |ptr _ _ _ _ b s C bL=>
  obtain ⟨hf,cur,g1,g2,g3,g4,g5,g6⟩:=ad.obj aX bL;subst hf;obtain ⟨mk,g1,lj,lD⟩:=g1.cells J;obtain ⟨fH,fu,hN⟩:=Cells.alb hu;have ei:i*bg.c.aI+j<cur.size:=by rw [g2];have:(i+1)*bg.c.aI≤C*bg.c.aI:=fp _ J;rw [eF] at this;omega
  refine ⟨w.setRow b (cur.setIfInBounds (i*bg.c.aI+j) u),σ,S,?_,ad.setRow aX bL lD fu J (by simpa using g2) (fun aK ba aQ bd=> ?_)⟩
  ·have BC:w.cell? ⟨b,i*bg.c.aI+j,none⟩=some cur[i*bg.c.aI+j]:=by simp [World.cell?,g1,ei]
   have aR:w.frozen? ⟨b,i*bg.c.aI+j,none⟩=false:=by simp [World.frozen?,g1];omega
   have En:u.cells= #[u]:=by cases u<;>first|rfl|cases Mv
   have dT:=run_store P w ⟨b,i*bg.c.aI+j,none⟩ u .plain Mv;rw [BC] at dT;simp only [aR,sd,hA,setCell_eq_setRow w b (i*bg.c.aI+j) cur bg.ty mk u g1] at dT;simp [execOp,bB,nf,Instr.storeAt,Instr.sureAddr,storeVar,En,AO az,storeCells,Addr.add_lit,dT]
  ·rw [fH] at aQ;rw [fu] at bd⊢;rw [hN aK ba aQ bd aa h2];by_cases he:aK=i∧ba=j
   ·obtain ⟨rfl,rfl⟩:=he;simp only [and_self,gg];exact ⟨u,by simp [ei],ab,Mv⟩
   ·rw [aw he];obtain ⟨qP,aE,aF,bO⟩:=g6 aK ba aQ bd;refine ⟨qP,?_,aF,bO⟩;have ch: ¬i*bg.c.aI+j=aK*bg.c.aI+ba:=by
     intro e;apply he;have hd:(i*bg.c.aI+j)/bg.c.aI=(aK*bg.c.aI+ba)/bg.c.aI:=by rw [e]
     have hm:(i*bg.c.aI+j)%bg.c.aI=(aK*bg.c.aI+ba)%bg.c.aI:=by rw [e]
     rw [hj i,hj aK,Nat.mul_add_div J,Nat.mul_add_div J,oR h2,oR bd] at hd;rw [hj i,hj aK,Nat.mul_add_mod,Nat.mul_add_mod,ny h2,ny bd] at hm;omega
    rw [Array.getElem?_setIfInBounds_ne ch];exact aE
def vN (v:Value):Option (List ao):=v.cells.toList.mapM fun x=>yr x
theorem FM {w:World}{S:Nat→Prop}{σ:Nat→Option bP}{z:Value}{zs:List ao}(h:vN z=some zs):z.cells.size=zs.length∧ ∀j,j<zs.length→bz w S σ (zs.getD j .any) (z.cells.getD j undef)∧(z.cells.getD j undef).oneCell'=true:=by
 unfold vN at h;have key: ∀(l:List Value) (zs:List ao),l.mapM (fun x=>yr x)=some zs→l.length=zs.length∧ ∀j,j<zs.length→bz w S σ (zs.getD j .any) (l.getD j undef)∧(l.getD j undef).oneCell'=true:=by
  intro l;induction l with
  |nil=>intro zs h;simp at h;subst h;exact ⟨rfl,fun j ae=>by simp at ae⟩
  |cons x r a6=>
   intro zs h;simp only [List.mapM_cons] at h;cases U:yr x with
   |none=>simp [U] at h
   |some y=>
    cases ab:r.mapM (fun x=>yr x) with
    |none=>simp [U,ab] at h
    |some w5=>
     simp [U,ab] at h;subst h;obtain ⟨i1,i2⟩:=a6 w5 ab;refine ⟨by simp [i1],fun j ae=> ?_⟩;cases j with
     |zero=>exact KS U
     |succ j=>simpa using i2 j (by simpa using ae)
 obtain ⟨et,eS⟩:=key _ _ h;refine ⟨by simpa using et,fun j ae=> ?_⟩;have:=eS j ae;have e:z.cells.toList.getD j undef=z.cells.getD j undef:=by
  have bG:j<z.cells.size:=by simp at et;omega
  simp [List.getD,Array.getD,bG]
 rwa [e] at this
def pg (n:Nat):List ao→Cells
 |[.int k 0]=> .ints k (List.replicate n 0)
 |[.str []]=> .strs (List.replicate n [])
 |zs=> .fn n zs.length (fun _ j=>zs.getD j .any)
theorem alF (n:Nat)(zs:List ao):(pg n zs).len=n∧(pg n zs).aI=zs.length∧ ∀i j,i<n→j<zs.length→(pg n zs).at i j=zs.getD j .any:=by
 have bY:= ‹bx›;unfold pg;split
 ·refine ⟨by simp [Cells.len],I,fun i j aa ae=> ?_⟩;simp only [gu,k6] at ae;have:j=0:=J;subst this;simp [Cells.at,List.getD,aa]
 ·refine ⟨by simp [Cells.len],I,fun i j aa ae=> ?_⟩;simp only [gu,k6] at ae;have:j=0:=J;subst this;simp [Cells.at,List.getD,aa]
 ·exact ⟨I,I,fun i j aa ae=>rfl⟩
theorem adb (z:Array Value)(n s:Nat)(az:z.size=s)(i j:Nat)(aa:i<n)(ae:j<s):(madeCells z (n*s))[i*s+j]? =some (z.getD j undef):=by
 have bY:= ‹bx›;have bG:i*s+j<n*s:=by have:(i+1)*s≤n*s:=fp _ J;rw [eF] at this;omega
 have hm:(i*s+j)%s=j:=by rw [hj,Nat.mul_add_mod];exact ny ae
 subst az;simp [madeCells,bG,hm,Array.getD,ae]
theorem mh {all:Array Oper}{d:Nat}{t e:TypeId}{x y:Operand}{ty:TypeId}{pos:String}{after:Array Edge}{rest:List Oper}{inf:TypeInfo}{z:Value}{zs:List ao}{n m:Int}{et eS:IntKind}(bu:P.underlying t=some (.slice e))(aa:P.info? e=some inf)(bB:inf.zero=some z)(cy:inf.size=zs.length)(lF:vN z=some zs)(e3:Nat.blt 0 zs.length=true)(al:bH fr x=some (.int et n))(a1:bH fr y=some (.int eS m))(ak:0≤n∧n≤m∧(inf.bytes:Int)*m≤281474976710656∧m≤9223372036854775807)(an:aj P fn c (.ops false all rest k) ((d,.aC H.length 0 n.toNat)::fr) (H++[some ⟨e,pg m.toNat zs⟩])):aj P fn c (.ops false all (⟨some d,.makeSlice t x y,ty,pos,after,none⟩::rest) k) fr H:=by
 refine uD (fun w a σ S ad=> ?_) an;obtain ⟨nj,z2,z3⟩:=alF m.toNat zs;obtain ⟨iU,jh⟩:=FM (w:=w) (S:=S) (σ:=σ) lF;have eR:=run_make (P:=P) w t e inf z bu aa bB et eS n m ak.1 ak.2.1 ak.2.2.1 ak.2.2.2;have HU:0<zs.length:=iZ e3;refine ⟨.slice (some ⟨w.heap.size,0,none⟩) n.toNat m.toNat,_,_,S,?_,ad.alloc (o:=⟨e,pg m.toNat zs⟩) (C:=m.toNat) (cur:=madeCells z.cells (m.toNat*inf.size)) (by simp [nj]) (by unfold maxLen;omega) (by simp [z2,size_madeCells,cy]) (fun i j aa ae=> ?_),?_⟩
 ·rotate_left
  ·simp [execOp,ad.fq al,ad.fq a1,eR]
 ·simp only [nj] at aa;simp only [z2] at ae⊢;rw [cy,adb z.cells m.toNat zs.length iU i j aa ae,z3 i j aa ae];exact ⟨_,I,(jh j ae).1,(jh j ae).2⟩
 ·have:=bz.aC (w:=w.alloc (.cells (madeCells z.cells (m.toNat*inf.size)) e (0,0))) (S:=S) (cZ σ H.length (.at w.heap.size zs.length m.toNat)) H.length 0 n.toNat w.heap.size zs.length m.toNat m.toNat (by simp [cZ]) J J;simpa [z2] using this
end
end Go.aj
namespace Go.aj
variable [bx]
open Go.RowKit
def qn (w:World)(S:Nat→Prop)(σ:Nat→Option bP)(cs:Array Value)(L:List ao):Prop:=
 cs.size=L.length∧ ∀j,j<L.length→bz w S σ (L.getD j .any) (cs.getD j undef)∧(cs.getD j undef).oneCell'=true
def ao.wk:ao→Option (List ao)
 | .agg l=>some l
 | .ck _=>none
 | .any=>none
 |v=>some [v]
theorem Wm {w:World}{S:Nat→Prop}{σ:Nat→Option bP}{v:ao}{x:Value}{L:List ao}(h:bz w S σ v x)(av:v.wk=some L):qn w S σ x.cells L:=by
 have one:v.wk=some [v]→v.one=true→qn w S σ x.cells L:=by
  intro U ab;rw [U] at av;simp only [dG] at av;subst av;have ay:=h.one ab;have En:x.cells= #[x]:=by cases x<;>first|rfl|cases ay
  rw [En];refine ⟨I,fun j ae=> ?_⟩;simp only [gu,k6] at ae;have:j=0:=J;subst this;exact ⟨h,ay⟩
 cases h with
 |agg _ l vs au af U=>
  simp only [ao.wk,dG] at av;subst av;exact ⟨au,fun j ae=>⟨af j ae,U j ae⟩⟩
 |ck=>simp [ao.wk] at av
 |any=>simp [ao.wk] at av
 |_=>exact one rfl rfl
def AZ (L:List ao)(o:Nat):List ao→List ao
 |[]=>L
 |v::r=>AZ (L.set o v) (o+1) r
theorem alR (L:List ao)(o:Nat)(l:List ao):(AZ L o l).length=L.length:=by
 have bY:= ‹bx›;induction l generalizing L o with
 |nil=>rfl
 |cons v r a6=>simp [AZ,a6]
theorem aan {w:World}{S:Nat→Prop}{σ:Nat→Option bP}{cs:Array Value}{L:List ao}{o:Nat}{v:ao}{x:Value}(h:qn w S σ cs L)(af:bz w S σ v x)(U:x.oneCell'=true):qn w S σ (cs.setIfInBounds o x) (L.set o v):=by
 have bY:= ‹bx›;refine ⟨by simp [h.1],fun j ae=> ?_⟩;have bd:j<L.length:=by simpa using ae
 by_cases he:o=j
 ·subst he;have:o<cs.size:=by rw [h.1];exact bd
  simp only [List.getD,oP bd,pR];simp [this,af,U]
 ·obtain ⟨a,b⟩:=h.2 j bd;simp only [List.getD,lW he];have e:(cs.setIfInBounds o x).getD j undef=cs.getD j undef:=by simp [Array.getElem?_setIfInBounds_ne he]
  rw [e];exact ⟨by simpa [List.getD] using a,b⟩
theorem YN {w:World}{S:Nat→Prop}{σ:Nat→Option bP}{o:Nat}: ∀(xs:List Value) (l:List ao) (k:Nat) (cs:Array Value) (L:List ao),qn w S σ cs L→xs.length=l.length→
 (∀j,j<l.length→bz w S σ (l.getD j .any) (xs.getD j undef)∧(xs.getD j undef).oneCell'=true)→
 qn w S σ ((xs.zipIdx k).foldl (fun cs (c,j)=>cs.setIfInBounds (o+j) c) cs) (AZ L (o+k) l)
 |[],[],_,cs,L,h,_,_=>h
 |x::xs,v::l,k,cs,L,h,au,af=>by simp only [List.zipIdx_cons,List.foldl_cons,AZ];have aM:=af 0 b1;exact YN xs l (k+1) _ _ (aan h (by simpa using aM.1) (by simpa using aM.2)) (by simpa using au) (fun j ae=>by simpa using af (j+1) (by simpa using ae))
 |[],_::_,_,_,_,_,au,_=>by simp at au
 |_::_,[],_,_,_,_,au,_=>by simp at au
def n5 (w:World)(S:Nat→Prop)(σ:Nat→Option bP):List (Nat×ao)→List (Nat×Value)→Prop
 |[],[]=>True
 |(i,v)::r,(aK,x)::dF=>i=aK∧bz w S σ v x∧n5 w S σ r dF
 |_,_=>False
def r0 (place:Nat→Option (Nat×Nat))(L:List ao):List (Nat×ao)→Option (List ao)
 |[]=>some L
 |(i,v)::r=>
  match place i with
  |none=>none
  |some (o,s)=>
   match v.wk with
   |none=>none
   |some l=>bif Nat.beq l.length s && Nat.ble (o+s) L.length then r0 place (AZ L o l) r else none
theorem Jz {w:World}{S:Nat→Prop}{σ:Nat→Option bP}{place:Nat→Option (Nat×Nat)}: ∀(iT:List (Nat×ao)) (dp:List (Nat×Value)) (cs:Array Value) (L oK:List ao),qn w S σ cs L→
 n5 w S σ iT dp→r0 place L iT=some oK→ ∃mw,Instr.fill place cs dp=some mw∧qn w S σ mw oK
 |[],_::_,cs,L,oK,h,aR,he=>aR.elim
 |_::_,[],cs,L,oK,h,aR,he=>aR.elim
 |[],[],cs,L,oK,h,aR,he=>by simp only [r0,dG] at he;subst he;exact ⟨cs,I,h⟩
 |(i,v)::iT,(aK,x)::dp,cs,L,oK,h,aR,he=>by
  obtain ⟨aE,U,ab⟩:=aR;subst aE;simp only [r0] at he;cases aD:place i with
  |none=>simp [aD] at he
  |some os=>
   obtain ⟨o,s⟩:=os;simp only [aD] at he;cases av:v.wk with
   |none=>simp [av] at he
   |some l=>
    simp only [av] at he;cases ak:(Nat.beq l.length s && Nat.ble (o+s) L.length) with
    |false=>simp [ak] at he
    |true=>
     simp only [ak,lV] at he;simp only [er] at ak;have dS:l.length=s:=pO ak.1;have eP:o+s≤L.length:=iZ ak.2;have aW:=Wm U av;have cy:x.cells.size=s:=by rw [aW.1,dS]
     have aG: ¬((x.cells.size≠s||o+x.cells.size>cs.size)=true):=by rw [cy,h.1];simp;omega
     have uL:qn w S σ (x.cells.zipIdx.foldl (fun cs (c,j)=>cs.setIfInBounds (o+j) c) cs) (AZ L o l):=by
      rw [←Array.foldl_toList,Array.toList_zipIdx];refine YN (o:=o) x.cells.toList l 0 cs L h (by simpa using aW.1) (fun j ae=> ?_);have e:x.cells.toList.getD j undef=x.cells.getD j undef:=by
       have bG:j<x.cells.size:=by rw [aW.1];exact ae
       simp [List.getD,Array.getD,bG]
      rw [e];exact aW.2 j ae
     obtain ⟨mw,g1,g2⟩:=Jz iT dp _ _ oK uL ab he;refine ⟨mw,?_,g2⟩;simp only [Instr.fill,aD];rw [aw aG];exact g1
section
variable {P:Program}{fn:Func}{c:Ctx}{fr:Fr}{H:aY}{k:List eO}
def qW (fr:Fr):List (Nat×Operand)→Option (List (Nat×ao))
 |[]=>some []
 |(i,x)::r=>match bH fr x with
  |some v=>match qW fr r with
   |some l=>some ((i,v)::l)
   |none=>none
  |none=>none
theorem IW {w:World}{a:Act}{σ:Nat→Option bP}{S:Nat→Prop}{n:Nat}(ad:cd c w a σ S n fr H): ∀(iT:List (Nat×Operand)) (l:List (Nat×ao)),qW fr iT=some l→
 n5 w S σ l (iT.map fun (i,x)=>(i,a.eval x))
 |[],l,h=>by simp [qW] at h;subst h;exact trivial
 |(i,x)::r,l,h=>by
  simp only [qW] at h;cases U:bH fr x with
  |none=>simp [U] at h
  |some v=>
   cases ab:qW fr r with
   |none=>simp [U,ab] at h
   |some gi=>
    simp [U,ab] at h;subst h;exact ⟨I,ad.ek U,IW ad r gi ab⟩
def Ka (P:Program)(t:TypeId):Option (Nat→Option (Nat×Nat)):=
 match P.underlying t with
 |some (.array _ e)=>match P.info? e with
  |some Ic=>some (fun i=>some (i*Ic.size,Ic.size))
  |none=>none
 |some (.struct fields)=>match fields.toList.mapM (fun f=>(P.info? f.type).map fun i=>(f.offset,i.size)) with
  |some places=>some (places.toArray[·]?)
  |none=>none
 |_=>none
theorem ji {ind:Bool}{d:Option Nat}{ty:TypeId}{pos:String}{after:Array Edge}{g:Option (Nat×Bool)}{t:TypeId}{parts:List (Nat×Operand)}{it:TypeInfo}{z:Value}{zs L:List ao}{l:List (Nat×ao)}{pl:Nat→Option (Nat×Nat)}(aa:P.info? t=some it)(bB:it.zero=some z)(lF:vN z=some zs)(iw:Ka P t=some pl)(au:qW fr parts=some l)(aR:r0 pl zs l=some L):
 bZ ind P fn c fr H ⟨d,.build t parts.toArray,ty,pos,after,g⟩ (.agg L):=by
 intro w a σ S ad;obtain ⟨iU,jh⟩:=FM (w:=w) (S:=S) (σ:=σ) lF;obtain ⟨mw,g1,g2⟩:=Jz l _ z.cells zs L ⟨iU,jh⟩ (IW ad parts l au) aR;refine ⟨.agg mw,.agg _ _ _ g2.1 (fun i aa=>(g2.2 i aa).1) (fun i aa=>(g2.2 i aa).2),fun w' _=> ?_⟩;have ak:P.built t ((parts.toArray.map fun (i,x)=>(i,a.eval x)).toList)=some mw:=by
  have e:(parts.toArray.map fun (i,x)=>(i,a.eval x)).toList=parts.map fun (i,x)=>(i,a.eval x):=b1;rw [e];unfold Ka at iw;unfold Program.built;cases hu:P.underlying t with
  |none=>simp [hu] at iw
  |some u=>
   cases u with
   |array mC gE=>
    simp only [hu] at iw;cases he:P.info? gE with
    |none=>simp [he] at iw
    |some Ic=>
     simp only [he,dG] at iw;subst iw;simp only [aa,bB,he];exact g1
   |struct fields=>
    simp only [hu] at iw;cases he:fields.toList.mapM (fun f=>(P.info? f.type).map fun i=>(f.offset,i.size)) with
    |none=>simp [he] at iw
    |some places=>
     simp only [he,dG] at iw;subst iw;simp only [aa,bB,he];exact g1
   |_=>simp [hu] at iw
 have eR:=run_build (P:=P) w' t (parts.toArray.map fun (i,x)=>(i,a.eval x)) mw ak;simp only [execOp,Sem.run_bind,eR,Result.andThen_ok];rfl
def y2:List ao→Option (IntKind×List Int)
 |[]=>none
 |[.int k n]=>some (k,[n])
 | .int k n::r=>match y2 r with
  |some (c1,l)=>match k,c1 with
   | .i64,.i64=>some (k,n::l)
   | .u8,.u8=>some (k,n::l)
   | .u64,.u64=>some (k,n::l)
   | .i32,.i32=>some (k,n::l)
   | .u32,.u32=>some (k,n::l)
   |_,_=>none
  |none=>none
 |_=>none
def y3:List ao→Option (List (List UInt8))
 |[]=>none
 |[.str n]=>some [n]
 | .str n::r=>match y3 r with
  |some l=>some (n::l)
  |none=>none
 |_=>none
theorem U9: ∀(L:List ao) (k:IntKind) (l:List Int),y2 L=some (k,l)→L=l.map (ao.int k)
 |[],k,l,h=>by have bY:= ‹bx›;simp [y2] at h
 |[v],k,l,h=>by cases v<;>simp [y2] at h;obtain ⟨rfl,rfl⟩:=h;rfl
 |v::v2::r,k,l,h=>by
  cases v<;>simp only [y2] at h<;>try (cases h;done)
  rename_i sy n;cases U:y2 (v2::r) with
  |none=>simp [U] at h
  |some M1=>
   obtain ⟨c1,gi⟩:=M1;have a6:=U9 (v2::r) c1 gi U;simp only [U] at h;cases sy<;>cases c1<;>simp at h<;>(obtain ⟨rfl,rfl⟩:=h;simp [a6])
theorem Va: ∀(L:List ao) (l:List (List UInt8)),y3 L=some l→L=l.map ao.str
 |[],l,h=>by have bY:= ‹bx›;simp [y3] at h
 |[v],l,h=>by cases v<;>simp [y3] at h;subst h;rfl
 |v::v2::r,l,h=>by
  cases v<;>simp only [y3] at h<;>try (cases h;done)
  cases U:y3 (v2::r) with
  |none=>simp [U] at h
  |some gi=>
   have a6:=Va (v2::r) gi U;simp [U] at h;subst h;simp [a6]
def fM (n s:Nat)(L:List ao):Cells:=
 match y2 L with
 |some (k,l)=>bif Nat.beq s 1 && Nat.beq l.length n then .ints k l else .fn n s (fun i j=>L.getD (i*s+j) .any)
 |none=>match y3 L with
  |some l=>bif Nat.beq s 1 && Nat.beq l.length n then .strs l else .fn n s (fun i j=>L.getD (i*s+j) .any)
  |none=> .fn n s (fun i j=>L.getD (i*s+j) .any)
theorem VV (n s:Nat)(L:List ao):(fM n s L).len=n∧(fM n s L).aI=s∧ ∀i j,i<n→j<s→(fM n s L).at i j=L.getD (i*s+j) .any:=by
 unfold fM;cases h:y2 L with
 |some M1=>
  obtain ⟨k,l⟩:=M1;simp only;cases ak:(Nat.beq s 1 && Nat.beq l.length n) with
  |false=>exact ⟨rfl,rfl,fun _ _ _ _=>rfl⟩
  |true=>
   simp only [er] at ak;have dS:=pO ak.1;have eP:=pO ak.2;have cB:=U9 L k l h;subst dS eP;refine ⟨I,I,fun i j aa ae=> ?_⟩;have:j=0:=J;subst this;subst cB;simp [Cells.at,List.getD,aa]
 |none=>
  cases ab:y3 L with
  |none=>exact ⟨rfl,rfl,fun _ _ _ _=>rfl⟩
  |some l=>
   simp only;cases ak:(Nat.beq s 1 && Nat.beq l.length n) with
   |false=>exact ⟨rfl,rfl,fun _ _ _ _=>rfl⟩
   |true=>
    simp only [er] at ak;have dS:=pO ak.1;have eP:=pO ak.2;have cB:=Va L l ab;subst dS eP;refine ⟨I,I,fun i j aa ae=> ?_⟩;have:j=0:=J;subst this;subst cB;simp [Cells.at,List.getD,aa]
def rT (zs:List ao):Nat→List ao
 |0=>[]
 |n+1=>zs++rT zs n
theorem NJ (zs:List ao)(n:Nat):(rT zs n).length=n*zs.length:=by
 have bY:= ‹bx›;induction n with
 |zero=>simp [rT]
 |succ n a6=>simp [rT,a6,eF];omega
theorem amK (zs:List ao)(bB:0<zs.length)(n:Nat): ∀j,j<n*zs.length→(rT zs n).getD j .any=zs.getD (j%zs.length) .any:=by
 have bY:= ‹bx›;induction n with
 |zero=>intro j ae;simp at ae
 |succ n a6=>
  intro j ae;rw [eF] at ae;by_cases h:j<zs.length
  ·rw [ny h];simp [rT,List.getD,oS,h]
  ·have e:j%zs.length=(j-zs.length)%zs.length:=by have:j=zs.length+(j-zs.length):=J;rw [this,Nat.add_mod_left];simp
   rw [e,←a6 (j-zs.length) J];simp [rT,List.getD,oS,h]
theorem UM {t e:TypeId}{n:Nat}{parts:List (Nat×Operand)}{it:TypeInfo}{z:Value}{zs L:List ao}{l:List (Nat×ao)}(bu:P.underlying t=some (.slice e))(aa:P.info? e=some it)(bB:it.zero=some z)(lF:vN z=some zs)(cy:it.size=zs.length)(e3:Nat.blt 0 zs.length=true)(ye:Nat.ble (n*zs.length) 16777216=true)(au:qW fr parts=some l)(aR:r0 (fun i=>some (i*zs.length,zs.length)) (rT zs n) l=some L){w:World}{a:Act}{σ:Nat→Option bP}{S:Nat→Prop}(ad:cd c w a σ S fn.ntmps fr H):
 ∃cs,qn w S σ cs L∧cs.size=n*zs.length∧(Instr.buildSlice t n (parts.toArray.map fun (i,x)=>(i,a.eval x))).run P w= .ok (.slice (some ⟨w.heap.size,0,none⟩) n n) (w.alloc (.cells cs e (0,0))):=by
 obtain ⟨iU,jh⟩:=FM (w:=w) (S:=S) (σ:=σ) lF;have HU:0<zs.length:=iZ e3;have arl:n*zs.length≤16777216:=iZ ye;have aM:qn w S σ ((Array.range (n*zs.length)).map (z.cells[· %z.cells.size]!)) (rT zs n):=by
  refine ⟨by simp [NJ],fun j ae=> ?_⟩;rw [NJ] at ae;rw [amK zs HU n j ae];have hm:j%zs.length<zs.length:=lz _ HU;have aE:((Array.range (n*zs.length)).map (z.cells[· %z.cells.size]!)).getD j undef=z.cells.getD (j%zs.length) undef:=by
   rw [iU];have:j%zs.length<z.cells.size:=by rw [iU];exact hm
   simp [Array.getD,ae,this]
  rw [aE];exact jh _ hm
 obtain ⟨cs,g1,g2⟩:=Jz l _ _ (rT zs n) L aM (IW ad parts l au) aR;have cB:L.length=n*zs.length:=by
  have key: ∀(iT:List (Nat×ao)) (M GJ:List ao),r0 (fun i=>some (i*zs.length,zs.length)) M iT=some GJ→GJ.length=M.length:=by
   intro iT;induction iT with
   |nil=>intro M GJ h;simp [r0] at h;rw [h]
   |cons p r a6=>
    intro M GJ h;obtain ⟨i,v⟩:=p;simp only [r0] at h;cases av:v.wk with
    |none=>simp [av] at h
    |some l=>
     simp only [av] at h;cases ak:(Nat.beq l.length zs.length && Nat.ble (i*zs.length+zs.length) M.length) with
     |false=>simp [ak] at h
     |true=>
      simp only [ak,lV] at h;rw [a6 _ _ h,alR]
  rw [key l _ L aR,NJ]
 refine ⟨cs,g2,by rw [g2.1,cB],?_⟩;have afD: ¬(16777216<n*zs.length):=J;have wx:Instr.fill (fun i=>some (i*zs.length,zs.length)) ((Array.range (n*zs.length)).map (z.cells[· %z.cells.size]!)) (parts.map fun (i,x)=>(i,a.eval x))=some cs:=g1;by_cases uS:n*zs.length=0
 ·have jY: ∀f:Nat→Value,Array.map f (Array.range 0)= #[]:=fun f=>by apply Array.eq_empty_of_size_eq_zero;simp
  rw [uS,jY] at wx;simp [Instr.buildSlice,run_underlying bu,sizeOf,typeInfo,aa,cy,uS,jY,wx,newRow,newObj,Sem.run]
 ·simp [Instr.buildSlice,run_underlying bu,sizeOf,typeInfo,aa,cy,uS,afD,zeroValue,bB,wx,newRow,newObj,Sem.run]
theorem ve {all:Array Oper}{d:Nat}{t e:TypeId}{n:Nat}{parts:List (Nat×Operand)}{ty:TypeId}{pos:String}{after:Array Edge}{rest:List Oper}{it:TypeInfo}{z:Value}{zs L:List ao}{l:List (Nat×ao)}{eb:Cells}(bu:P.underlying t=some (.slice e))(aa:P.info? e=some it)(bB:it.zero=some z)(lF:vN z=some zs)(cy:it.size=zs.length)(e3:Nat.blt 0 zs.length=true)(ye:Nat.ble (n*zs.length) 16777216=true)(au:qW fr parts=some l)(aR:r0 (fun i=>some (i*zs.length,zs.length)) (rT zs n) l=some L)(hC:fM n zs.length L=eb)(an:aj P fn c (.ops false all rest k) ((d,.aC H.length 0 n)::fr) (H++[some ⟨e,eb⟩])):aj P fn c (.ops false all (⟨some d,.buildSlice t n parts.toArray,ty,pos,after,none⟩::rest) k) fr H:=by
 refine uD (fun w a σ S ad=> ?_) an;subst hC;obtain ⟨nj,z2,z3⟩:=VV n zs.length L;obtain ⟨cs,g1,g2,g3⟩:=UM bu aa bB lF cy e3 ye au aR ad;have aG:n≤n*zs.length:=Nat.le_mul_of_pos_right n (iZ e3);have hf:n*zs.length≤16777216:=iZ ye;refine ⟨.slice (some ⟨w.heap.size,0,none⟩) n n,_,_,S,?_,ad.alloc (o:=⟨e,fM n zs.length L⟩) (C:=n) (cur:=cs) (by simp [nj]) (by unfold maxLen;omega) (by rw [z2];exact g2) (fun i j aa ae=> ?_),?_⟩
 ·simp only [execOp,Sem.run_bind,g3,Result.andThen_ok];rfl
 ·simp only [nj] at aa;simp only [z2] at ae⊢;have bG:i*zs.length+j<L.length:=by rw [←g1.1,g2];have:(i+1)*zs.length≤n*zs.length:=fp _ J;rw [eF] at this;omega
  obtain ⟨gy,a2⟩:=g1.2 _ bG;rw [z3 i j aa ae];refine ⟨cs.getD (i*zs.length+j) undef,?_,gy,a2⟩;have:i*zs.length+j<cs.size:=by rw [g1.1];exact bG
  simp [Array.getD,this]
 ·have:=bz.aC (w:=w.alloc (.cells cs e (0,0))) (S:=S) (cZ σ H.length (.at w.heap.size zs.length n)) H.length 0 n w.heap.size zs.length n n (by simp [cZ]) J J;simpa [z2] using this
def c2:ao→Bool
 | .aC _ _ _=>false
 | .ptr _ _ _=>false
 | .fn _ l=>e9 l
 | .agg l=>e9 l
 | .ck l=>e9 l
 | .mp _=>false
 |_=>true
where e9:List ao→Bool
 |[]=>true
 |v::r=>c2 v && e9 r
theorem xb {l:List ao}(h:c2.e9 l=true)(i:Nat)(aa:i<l.length):c2 (l.getD i .any)=true:=by
 have bY:= ‹bx›;induction l generalizing i with
 |nil=>simp at aa
 |cons v r a6=>
  simp only [c2.e9,er] at h;cases i with
  |zero=>simpa using h.1
  |succ i=>simpa using a6 h.2 i (by simpa using aa)
theorem bz.closed {w:World}{S:Nat→Prop}{σ:Nat→Option bP}{x:ao}{v:Value}(h:bz w S σ x v):c2 x=true→ ∀bC,bz w S bC x v:=by
 induction h with
 |int=>intros;constructor
 |bool=>intros;constructor
 |str=>intros;constructor
 |nil=>intros;constructor
 |ko=>intros;constructor
 |ro σ c i len b o cap val fs hlen av af U a6=>intro _ bC;exact .ro _ _ _ _ _ _ _ val fs hlen av af U
 |aC=>intro h;cases h
 |iD=>intro h;cases h
 |cK σ c i j b o val fs av af U a6=>intro _ bC;exact .cK _ _ _ _ _ _ val fs av af U
 |ptr=>intro h;cases h
 |p0=>intros;constructor
 |fn σ f cap vs au af a6=>intro aG bC;exact .fn _ _ _ _ au (fun i aa=>a6 i aa (xb aG i aa) _)
 |pZ=>intros;constructor
 |iface=>intros;constructor
 |ov=>intros;constructor
 |agg σ l vs au af U a6=>intro aG bC;exact .agg _ _ _ au (fun i aa=>a6 i aa (xb aG i aa) _) U
 |ck σ l vs au af a6=>intro aG bC;exact .ck _ _ _ au (fun i aa=>a6 i aa (xb aG i aa) _)
 |mp=>intro h;cases h
 |iC σ ks vs b es clock e fs ak aG au hd he an af=>intro _ bC;exact .iC _ _ _ b es clock e fs ak aG au hd he an af
 |any=>intros;constructor
theorem ju {all:Array Oper}{d:Nat}{t e:TypeId}{n:Nat}{parts:List (Nat×Operand)}{ty:TypeId}{pos:String}{after:Array Edge}{rest:List Oper}{it:TypeInfo}{z:Value}{zs L:List ao}{l:List (Nat×ao)}{eb:Cells}(bu:P.underlying t=some (.slice e))(aa:P.info? e=some it)(bB:it.zero=some z)(lF:vN z=some zs)(cy:it.size=zs.length)(e3:Nat.blt 0 zs.length=true)(ye:Nat.ble (n*zs.length) 16777216=true)(au:qW fr parts=some l)(aR:r0 (fun i=>some (i*zs.length,zs.length)) (rT zs n) l=some L)(hC:fM n zs.length L=eb)(aG:c2.e9 L=true)(an:aj P fn c (.ops false all rest k) ((d,.ro eb 0 n)::fr) H):aj P fn c (.ops false all (⟨some d,.buildSlice t n parts.toArray,ty,pos,after,none⟩::rest) k) fr H:=by
 refine uD (fun w a σ S ad=> ?_) an;subst hC;obtain ⟨nj,z2,z3⟩:=VV n zs.length L;obtain ⟨cs,g1,g2,g3⟩:=UM bu aa bB lF cy e3 ye au aR ad;have hN: ∀d j,d<n→j<zs.length→(w.alloc (.cells cs e (0,0))).cell? ⟨w.heap.size,0+d*zs.length+j,none⟩=some (cs.getD (d*zs.length+j) undef)∧bz w S σ (L.getD (d*zs.length+j) .any) (cs.getD (d*zs.length+j) undef)∧(cs.getD (d*zs.length+j) undef).oneCell'=true∧d*zs.length+j<L.length:=by
  intro d j hd ae;have bG:d*zs.length+j<L.length:=by rw [←g1.1,g2];have:(d+1)*zs.length≤n*zs.length:=fp _ J;rw [eF] at this;omega
  obtain ⟨gy,a2⟩:=g1.2 _ bG;have ay:d*zs.length+j<cs.size:=by rw [g1.1];exact bG
  refine ⟨?_,gy,a2,bG⟩;have:=heap_alloc_new w (.cells cs e (0,0));unfold World.cell?;simp only [this];simp [Array.getD,ay]
 refine ⟨.slice (some ⟨w.heap.size,0,none⟩) n n,_,σ,_,?_,ad.aai (.cells cs e (0,0)),?_⟩
 ·simp only [execOp,Sem.run_bind,g3,Result.andThen_ok];rfl
 ·refine .ro _ _ _ _ _ _ _ (fun d j=>cs.getD (d*zs.length+j) undef) (.inr I) (bN _) (fun d j hd ae=> ?_) (fun d j hd ae=> ?_) (fun d j hd ae=> ?_)
  ·rw [z2] at ae⊢;exact (hN d j hd ae).1
  ·rw [z2] at ae;rw [cR,z3 d j hd ae];obtain ⟨_,ab,_,bc⟩:=hN d j hd ae;have bI:=ab.closed (xb aG _ bc) (fun _=>none);exact bI.mono (fun _ h=> .inl h) (fun b ak=>Below.heap_alloc _ _ b (ad.ad.small b ak)) _ (fun _ _ h=>h)
  ·rw [z2] at ae;exact (hN d j hd ae).2.2.1
end
end Go.aj
namespace Go.aj
variable [bx]
open Go.RowKit
mutual
def ao.forget (h:Nat):ao→ao
 | .aC aS i n=>bif Nat.beq aS h then .any else .aC aS i n
 | .ptr aS i j=>bif Nat.beq aS h then .any else .ptr aS i j
 | .fn f l=> .fn f (ao.kg h l)
 | .agg l=> .agg (ao.kg h l)
 | .ck l=> .ck (ao.kg h l)
 | .mp aS=>bif Nat.beq aS h then .any else .mp aS
 |v=>v
def ao.kg (h:Nat):List ao→List ao
 |[]=>[]
 |v::r=>v.forget h::ao.kg h r
end
theorem sG (h:Nat)(l:List ao):(ao.kg h l).length=l.length:=by
 have bY:= ‹bx›;induction l with
 |nil=>rfl
 |cons v r a6=>simp [ao.kg,a6]
theorem Cv (h:Nat)(l:List ao)(i:Nat)(aa:i<l.length):(ao.kg h l).getD i .any=(l.getD i .any).forget h:=by
 have bY:= ‹bx›;induction l generalizing i with
 |nil=>simp at aa
 |cons v r a6=>cases i with
  |zero=>rfl
  |succ i=>simpa [ao.kg] using a6 i (by simpa using aa)
theorem bz.forget {w:World}{S:Nat→Prop}{σ:Nat→Option bP}{x:ao}{v:Value}{h:Nat}(af:bz w S σ x v): ∀bC,(∀aS,aS≠h→bC aS=σ aS)→bz w S bC (x.forget h) v:=by
 induction af with
 |int=>intros;constructor
 |bool=>intros;constructor
 |str=>intros;constructor
 |nil=>intros;constructor
 |ko=>intros;constructor
 |ro σ c i len b o cap val fs hlen av af U a6=>intro bC _;exact .ro _ _ _ _ _ _ _ val fs hlen av af U
 |aC σ aS i len b s C cap bL hlen kh=>
  intro bC az;simp only [ao.forget];by_cases he:aS=h
  ·subst he;simp only [pP,lV];exact .any _ _
  ·simp only [dz he,oN];exact .aC _ _ _ _ _ _ _ _ (by rw [az aS he];exact bL) hlen kh
 |iD σ aS bL=>
  intro bC az;simp only [ao.forget];by_cases he:aS=h
  ·subst he;simp only [pP,lV];exact .any _ _
  ·simp only [dz he,oN];exact .iD _ _ (by rw [az aS he];exact bL)
 |cK σ c i j b o val fs av af U a6=>intro bC _;exact .cK _ _ _ _ _ _ val fs av af U
 |ptr σ aS i j b s C bL=>
  intro bC az;simp only [ao.forget];by_cases he:aS=h
  ·subst he;simp only [pP,lV];exact .any _ _
  ·simp only [dz he,oN];exact .ptr _ _ _ _ _ _ _ (by rw [az aS he];exact bL)
 |p0=>intros;constructor
 |fn σ f cap vs au af a6=>intro bC az;exact .fn _ _ _ _ (by rw [sG];exact au) (fun i aa=>by rw [sG] at aa;rw [Cv h cap i aa];exact a6 i aa bC az)
 |pZ=>intros;constructor
 |iface=>intros;constructor
 |ov=>intros;constructor
 |agg σ l vs au af U a6=>intro bC az;exact .agg _ _ _ (by rw [sG];exact au) (fun i aa=>by rw [sG] at aa;rw [Cv h l i aa];exact a6 i aa bC az) (fun i aa=>U i (by rwa [sG] at aa))
 |ck σ l vs au af a6=>intro bC az;exact .ck _ _ _ (by rw [sG];exact au) (fun i aa=>by rw [sG] at aa;rw [Cv h l i aa];exact a6 i aa bC az)
 |mp σ aS b bL=>
  intro bC az;simp only [ao.forget];by_cases he:aS=h
  ·subst he;simp only [pP,lV];exact .any _ _
  ·simp only [dz he,oN];exact .mp _ _ _ (by rw [az aS he];exact bL)
 |iC σ ks vs b es clock e fs ak aG au hd he an af=>intro bC az;exact .iC _ _ _ b es clock e fs ak aG au hd he an af
 |any=>intros;constructor
def Cells.forget (h:Nat):Cells→Cells
 | .ints k l=> .ints k l
 | .strs l=> .strs l
 | .box l=> .box (ao.kg h l)
 | .mp ks vs=> .mp (ao.kg h ks) (ao.kg h vs)
 | .fn n s f=> .fn n s (fun i j=>(f i j).forget h)
theorem Cells.zG (h:Nat)(c:Cells):(c.forget h).len=c.len:=by have bY:= ‹bx›;cases c<;>rfl
theorem Cells.He (h:Nat)(c:Cells):(c.forget h).aI=c.aI:=by cases c<;>first|rfl|exact sG _ _
theorem Cells.Hd (h:Nat)(c:Cells)(i j:Nat)(ae:j<c.aI):(c.forget h).at i j=(c.at i j).forget h:=by
 cases c with
 |box l=>exact Cv h l j ae
 |_=>rfl
def jl (h:Nat):Option bm→Option bm
 |some o=>some ⟨o.ty,o.c.forget h⟩
 |none=>none
def c6 (h:Nat):aY→aY
 |[]=>[]
 |o::r=>jl h o::c6 h r
def oC (h:Nat):Fr→Fr
 |[]=>[]
 |(t,v)::r=>(t,v.forget h)::oC h r
theorem I4 (h:Nat)(H:aY)(i:Nat):(c6 h H)[i]? =(H[i]?).map (jl h):=by
 have bY:= ‹bx›;induction H generalizing i with
 |nil=>simp [c6]
 |cons o r a6=>cases i with
  |zero=>simp [c6]
  |succ i=>simpa [c6] using a6 i
theorem vg (h:Nat)(H:aY):(c6 h H).length=H.length:=by
 have bY:= ‹bx›;induction H with
 |nil=>rfl
 |cons o r a6=>simp [c6,a6]
theorem Fp (h:Nat)(fr:Fr)(t:Nat):look t (oC h fr)=(look t fr).map (ao.forget h):=by
 have bY:= ‹bx›;induction fr with
 |nil=>rfl
 |cons p r a6=>
  obtain ⟨u,v⟩:=p;simp only [oC,look];cases Nat.beq t u<;>simp [a6]
theorem Lays.forget {w w':World}{S cb:Nat→Prop}{σ bC:Nat→Option bP}{t:TypeId}{c:Cells}{b:Nat}{cur:Array Value}{C:Nat}{h:Nat}(ak:w'.heap[b]? =w.heap[b]?)(af: ∀{x v},bz w S σ x v→bz w' cb bC (x.forget h) v)(cB:Lays w S σ ⟨t,c⟩ b cur C):Lays w' cb bC ⟨t,c.forget h⟩ b cur C:=by
 have bY:= ‹bx›;cases cB with
 |row mk h hm eh=>exact .row mk (by rw [ak];exact h) hm eh
 |map ks vs es clock av eh h aG au hd he=>
  simp only at av;subst av;exact .map _ _ es clock I eh (by rw [ak];exact h) (by rw [sG];exact aG) (by rw [sG,sG];exact au) hd (fun i aa=>by
   rw [sG] at aa;obtain ⟨e,aE,aF,bO⟩:=he i aa;exact ⟨e,aE,by rw [Cv _ _ _ aa];exact af aF,by rw [Cv _ _ _ J];exact af bO⟩)
theorem cd.M9 {c:Ctx}{w w':World}{a:Act}{σ:Nat→Option bP}{S:Nat→Prop}{n:Nat}{fr:Fr}{H:aY}(ad:cd c w a σ S n fr H){h:Nat}{o:bm}(aX:H[h]? =some (some o)){c':Cells}{b C:Nat}{cur:Array Value}{mk:Nat×Nat}(EH:w'.os=w.os)(EI:w'.output=w.output)(ER:w'.tape=w.tape)(Ab:w.heap.size≤w'.heap.size)(cy:c'.aI=o.c.aI)(pU: ∀b',b'<w.heap.size→b'≠b→w'.heap[b']? =w.heap[b']?)(ak:w'.heap[b]? =some (.cells cur o.ty mk))(jq:cur.size=C*c'.aI)(eh:C≤maxLen)(hlen:c'.len≤C)(BH:w.heap.size≤b∨σ h=some (.at b o.c.aI C))(bJ: ¬c.fix h∨σ h=some (.at b o.c.aI C))(av: ∀i j,i<c'.len→j<c'.aI→ ∃v,cur[i*c'.aI+j]? =some v∧bz w S σ (c'.at i j) v∧v.oneCell'=true)(uT: ∀i j,i<c'.len→j<c'.aI→(c'.at i j).forget h=c'.at i j)(lj:mk.2≤mk.1∨cur.size≤mk.1):
 cd c w' a (cZ σ h (.at b c'.aI C)) S n (oC h fr) ((c6 h H).set h (some ⟨o.ty,c'⟩)):=by
 have bG:h<H.length:=(gZ.1 aX).1;have x6:h<(c6 h H).length:=by rw [vg];exact bG
 have fs: ¬S b:=by
  rcases BH with aR|aR
  ·intro az;have:=ad.ad.small b az;omega
  ·exact (ad.obj aX aR).2.choose_spec.2.2.2.2.1
 have dm: ∀b',S b'→w'.heap[b']? =w.heap[b']? :=fun b' az=>pU b' (ad.ad.small b' az) (fun e=>fs (e▸az));have uW: ∀aS,aS≠h→cZ σ h (.at b c'.aI C) aS=σ aS:=fun aS he=>by simp [cZ,he]
 have sw: ∀{x v},bz w S σ x v→bz w' S (cZ σ h (.at b c'.aI C)) (x.forget h) v:=fun af=>(af.forget _ uW).mono (fun _ h=>h) dm _ (fun _ _ h=>h);have c7: ∀aS o',((c6 h H).set h (some ⟨o.ty,c'⟩))[aS]? =some (some o')→(aS=h∧o'=⟨o.ty,c'⟩)∨(aS≠h∧ ∃dt,H[aS]? =some (some dt)∧o'=⟨dt.ty,dt.c.forget h⟩):=by
  intro aS o' ai;by_cases he:aS=h
  ·subst he;simp only [oP x6,dG] at ai;exact .inl ⟨I,ai.symm⟩
  ·rw [lW (ra he),I4] at ai;cases aA:H[aS]? with
   |none=>simp [aA] at ai
   |some ma=>cases ma with
    |none=>simp [aA,jl] at ai
    |some dt=>
     simp [aA,jl] at ai;exact .inr ⟨he,dt,I,ai.symm⟩
 have hold: ∀aS dt b' ct cM,aS≠h→H[aS]? =some (some dt)→σ aS=some (.at b' ct cM)→b'≠b∧b'<w.heap.size:=by
  intro aS dt b' ct cM ch rv ez;obtain ⟨_,ja,g,_⟩:=ad.obj rv ez;have U:=g.lt;refine ⟨fun e=> ?_,U⟩;subst e;rcases BH with aR|aR
  ·omega
  ·exact ch (ad.ad.hB aS h dt o b' ct cM o.c.aI C rv aX ez aR)
 refine ⟨⟨?_,?_,fun b' az=>ha (ad.ad.small b' az) Ab,fun aS au=> ?_⟩,?_,ad.defers,ad.size,fun t v au=> ?_⟩
 ·intro aS o' ai;rcases c7 aS o' ai with ⟨rfl,rfl⟩|⟨ch,dt,rv,rfl⟩
  ·right;refine ⟨b,C,cur,by simp [cZ],.row mk ak lj eh,jq,Nat.le_succ_of_le eh,hlen,fs,fun i j aa ae=> ?_⟩;obtain ⟨v,aE,aF,bO⟩:=av i j aa ae;refine ⟨v,aE,?_,bO⟩;have:=sw aF
   rwa [uT i j aa ae] at this
  ·rcases ad.ad.live aS dt rv with ⟨aG,jH⟩|⟨b',cM,ja,g1,g2,g3,g4,g5,g6,g7⟩
   ·left;exact ⟨by rw [uW aS ch];exact aG,by simpa [Cells.zG] using jH⟩
   ·right;obtain ⟨tx,BB⟩:=hold aS dt b' _ cM ch rv g1;simp only [Cells.zG,Cells.He];refine ⟨b',cM,ja,by rw [uW aS ch];exact g1,g2.forget (pU b' BB tx) sw,g3,g4,g5,g6,fun i j aa ae=> ?_⟩;obtain ⟨v,aE,aF,bO⟩:=g7 i j aa ae;exact ⟨v,aE,by rw [Cells.Hd h dt.c i j ae];exact sw aF,bO⟩
 ·intro U ab o1 o2 b' s1 gL s2 gx g1 g2 aE aF;rcases c7 U o1 g1 with ⟨rfl,rfl⟩|⟨sz,c4,bQ,rfl⟩<;>rcases c7 ab o2 g2 with ⟨rfl,rfl⟩|⟨Na,fv,bX,rfl⟩
  ·rfl
  ·simp only [cZ,gg,dG,bP.at.injEq] at aE;rw [uW ab Na] at aF;exact absurd aE.1.symm (hold ab fv b' s2 gx Na bX aF).1
  ·simp only [cZ,gg,dG,bP.at.injEq] at aF;rw [uW U sz] at aE;exact absurd aF.1.symm (hold U c4 b' s1 gL sz bQ aE).1
  ·rw [uW U sz] at aE;rw [uW ab Na] at aF;exact ad.ad.hB U ab _ _ b' s1 gL s2 gx bQ bX aE aF
 ·simp only [da,vg] at au;rw [uW aS J];exact ad.ad.ie aS au
 ·refine ⟨EH.trans ad.bk.os,EI.trans ad.bk.output,ER.trans ad.bk.tape,dU ad.bk.size Ab,fun b' ez ai=> ?_,ad.bk.hV,ad.bk.fb,fun aS aR=> ?_,fun aS aR=>by simpa [vg] using ad.bk.jF aS aR,?_⟩
  ·have ch:b'≠b:=by
    rintro rfl;rcases BH with aR|aR
    ·have:=ad.bk.size;omega
    ·rcases ad.bk.own h o b' _ C aX aR with U|U
     ·exact ai U
     ·omega
   rw [pU b' (by have:=ad.bk.size;omega) ch];exact ad.bk.block b' ez ai
  ·by_cases he:aS=h
   ·subst he;rcases bJ with U|U
    ·exact absurd aR U
    ·rw [←ad.bk.fixed aS aR,U];simp [cZ,cy]
   ·rw [uW aS he];exact ad.bk.fixed aS aR
  ·intro aS o' b' ct cM ai ez;rcases c7 aS o' ai with ⟨rfl,rfl⟩|⟨ch,dt,rv,rfl⟩
   ·simp only [cZ,gg,dG,bP.at.injEq] at ez;obtain ⟨rfl,_,_⟩:=ez;rcases BH with aR|aR
    ·right;have:=ad.bk.size;omega
    ·exact ad.bk.own aS o b _ C aX aR
   ·rw [uW aS ch] at ez;exact ad.bk.own aS dt b' ct cM rv ez
 ·rw [Fp] at au;cases aA:look t fr with
  |none=>simp [aA] at au
  |some v0=>
   simp [aA] at au;subst au;exact ⟨(ad.fl t v0 aA).1,sw (ad.fl t v0 aA).2⟩
theorem cd.Tw {c:Ctx}{w w':World}{a:Act}{σ:Nat→Option bP}{S:Nat→Prop}{n:Nat}{fr:Fr}{H:aY}(ad:cd c w a σ S n fr H){h:Nat}{o:bm}(aX:H[h]? =some (some o)){c':Cells}{b C:Nat}{cur:Array Value}(EH:w'.os=w.os)(EI:w'.output=w.output)(ER:w'.tape=w.tape)(Ab:w.heap.size≤w'.heap.size)(cy:c'.aI=o.c.aI)(pU: ∀b',b'<w.heap.size→b'≠b→w'.heap[b']? =w.heap[b']?)(ak:w'.heap[b]? =some (.cells cur o.ty (0,0)))(jq:cur.size=C*c'.aI)(eh:C≤maxLen)(hlen:c'.len≤C)(BH:w.heap.size≤b∨σ h=some (.at b o.c.aI C))(bJ: ¬c.fix h∨σ h=some (.at b o.c.aI C))(av: ∀i j,i<c'.len→j<c'.aI→ ∃v,cur[i*c'.aI+j]? =some v∧bz w S σ (c'.at i j) v∧v.oneCell'=true)(uT: ∀i j,i<c'.len→j<c'.aI→(c'.at i j).forget h=c'.at i j):
 cd c w' a (cZ σ h (.at b c'.aI C)) S n (oC h fr) ((c6 h H).set h (some ⟨o.ty,c'⟩)):=
 ad.M9 aX EH EI ER Ab cy pU ak jq eh hlen BH bJ av uT (.inl (bN _))
end Go.aj
namespace Go.aj
variable [bx]
open Go.RowKit
theorem Fh (P:Program)(g o:Nat)(t:TypeId)(mk:Nat×Nat): ∀(vs:List Value) (i:Nat) (cur:Array Value) (w:World),w.heap[g]? =some (.cells cur t mk)→(mk.2≤mk.1∨cur.size≤mk.1)→o+i+vs.length≤cur.size→(∀v∈vs,v.oneCell'=true)→
 (storeCells ⟨g,o,none⟩ vs i).run P w= .ok () (w.setRow g (cur.toList.take (o+i)++vs++cur.toList.drop (o+i+vs.length)).toArray)
 |[],i,cur,w,c9,_,_,_=>by have bY:= ‹bx›;simp only [storeCells,lA,k6,fg,s7,DL];rw [setRow_self w g cur t mk c9];rfl
 |v::rest,i,cur,w,c9,hm,au,U=>by
  have aa:o+i<cur.size:=by simp at au;omega
  have adX:(⟨g,o,none⟩:Addr).add i=⟨g,o+i,none⟩:=Addr.add_lit _ _ _;have oi:w.cell? ⟨g,o+i,none⟩=some cur[o+i]:=by simp [World.cell?,c9,aa]
  have aeN:w.frozen? ⟨g,o+i,none⟩=false:=by simp [World.frozen?,c9];omega
  have dT:(store ((⟨g,o,none⟩:Addr).add i) v).run P w= .ok () (w.setRow g (cur.setIfInBounds (o+i) v)):=by rw [adX,run_store P w _ v _ (U v b1),oi];simp [aeN,setCell_eq_setRow w g (o+i) cur t mk v c9]
  have a6:=Fh P g o t mk rest (i+1) (cur.setIfInBounds (o+i) v) (w.setRow g (cur.setIfInBounds (o+i) v)) (setRow_heap w g cur _ t _ c9) (by simpa using hm) (by simp at au⊢;omega) (fun x al=>U x (by simp [al]));simp only [storeCells,Sem.run_bind,dT,Result.andThen_ok,a6,setRow_setRow];congr 3;have e:=list_seg_step cur.toList (o+i) v rest (by simp at au⊢;omega);simpa [Array.toList_setIfInBounds,jU] using e
theorem alD {P:Program}(w:World)(t ty e:TypeId)(inf:TypeInfo)(bu:P.underlying t=some (.slice e))(aa:P.info? e=some inf)(g n cap:Nat)(cur:Array Value){mk:Nat×Nat}(c9:w.heap[g]? =some (.cells cur e mk))(hm:mk.2≤mk.1∨cur.size≤mk.1)(a:Addr)(m c:Nat)(news:List Value)(au:news.length=m*inf.size)(afz: ∀j u,news[j]? =some u→w.cell? (a.add j)=some u)(U: ∀u∈news,u.oneCell'=true)(EN:n+m≤cap)(ss:n*inf.size+news.length≤cur.size):
 (Builtin.append_ #[t,t] ty #[.slice (some ⟨g,0,none⟩) n cap,.slice (some a) m c]).run P w=
  .ok (.slice (some ⟨g,0,none⟩) (n+m) cap) (w.setRow g (cur.toList.take (n*inf.size)++news++cur.toList.drop (n*inf.size+news.length)).toArray):=by have bY:= ‹bx›;have aR:=run_firstCells_some (P:=P) w inf.size m a m c news au afz;have dT:=Fh P g (n*inf.size) e mk news 0 cur w c9 hm (by simpa using ss) U;simp only [fg] at dT;simp [Builtin.append_,run_underlying bu,sizeOf,typeInfo,aa,Builtin.lenOf,EN,aR,Addr.add_lit,dT]
def DC (H:aY):ao→Option (Cells×Nat×Nat)
 | .ro c i m=>some (c,i,m)
 | .aC h i m=>match H[h]? with
  |some (some o)=>some (o.c,i,m)
  |_=>none
 | .nil=>some (.ints .i64 [],0,0)
 |_=>none
def Src (w:World)(S:Nat→Prop)(σ:Nat→Option bP)(c:Cells)(i m:Nat)(x:Value):Prop:=
 (m=0∧ ∃a cap,x= .slice a 0 cap)∨ ∃(jD:Addr) (cap:Nat) (news:List Value),x= .slice (some jD) m cap∧news.length=m*c.aI∧(∀j u,news[j]? =some u→w.cell? (jD.add j)=some u)∧(∀u∈news,u.oneCell'=true)∧
  ∀d j,d<m→j<c.aI→ ∃u,news[d*c.aI+j]? =some u∧bz w S σ (c.at (i+d) j) u
theorem abM {d s j:Nat}(ae:j<s):(d*s+j)/s=d∧(d*s+j)%s=j:=by have bY:= ‹bx›;rw [hj,Nat.mul_add_div J,Nat.mul_add_mod,oR ae,ny ae];exact ⟨J,I⟩
theorem cd.src {c:Ctx}{w:World}{a:Act}{σ:Nat→Option bP}{S:Nat→Prop}{n:Nat}{fr:Fr}{H:aY}(ad:cd c w a σ S n fr H){v:ao}{x:Value}{eb:Cells}{i m:Nat}(af:bz w S σ v x)(az:DC H v=some (eb,i,m))(ei: ∀h,v= .aC h i m→i+m≤eb.len):Src w S σ eb i m x:=by
 cases af<;>simp only [DC] at az<;>try (cases az;done)
 case nil=>
  simp only [dG,zk] at az;obtain ⟨rfl,rfl,rfl⟩:=az;exact .inl ⟨I,none,0,I⟩
 case ko c' aK ly cap=>
  simp only [dG,zk] at az;obtain ⟨rfl,rfl,rfl⟩:=az;exact .inl ⟨I,ly,cap,I⟩
 case ro c' aK len b o cap val dm hlen av af U=>
  simp only [dG,zk] at az;obtain ⟨rfl,rfl,rfl⟩:=az;right;refine ⟨⟨b,o,none⟩,cap,(List.range (len*c'.aI)).map (fun t=>val (t/c'.aI) (t%c'.aI)),I,b1,?_,?_,?_⟩
  ·intro j u hu;have ae:j<len*c'.aI:=by simpa using (gZ.1 hu).1
   have e3:0<c'.aI:=zl (fun h=>by rw [h] at ae;simp at ae);have hd:j/c'.aI<len:=(Nat.div_lt_iff_lt_mul e3).2 ae;have hm:j%c'.aI<c'.aI:=lz _ e3;simp only [lB,vW ae,s8,dG] at hu;subst hu;have:=av (j/c'.aI) (j%c'.aI) hd hm;rw [Addr.add_lit];have e:o+j/c'.aI*c'.aI+j%c'.aI=o+j:=by rw [jU,Nat.div_add_mod']
   rwa [e] at this
  ·intro u hu;obtain ⟨t,bu,rfl⟩:=cS.1 hu;have ae:t<len*c'.aI:=by simpa using bu
   have e3:0<c'.aI:=zl (fun h=>by rw [h] at ae;simp at ae);exact U _ _ ((Nat.div_lt_iff_lt_mul e3).2 ae) (lz _ e3)
  ·intro d j hd ae;obtain ⟨aE,aF⟩:=abM (d:=d) ae;have bG:d*c'.aI+j<len*c'.aI:=by have:(d+1)*c'.aI≤len*c'.aI:=fp _ J;rw [eF] at this;omega
   refine ⟨val d j,by simp [bG,aE,aF],(af d j hd ae).mono (fun _ h=>h) (fun _ _=>rfl) _ (fun _ _ h=>by cases h)⟩
 case aC h aK len b s C cap hlen kh bL=>
  cases aA:H[h]? with
  |none=>simp [aA] at az
  |some ma=>cases ma with
   |none=>simp [aA] at az
   |some o=>
    simp only [aA,dG,zk] at az;obtain ⟨rfl,rfl,rfl⟩:=az;have BM:=ei h rfl;obtain ⟨hf,cur,g1,g2,g3,g4,g5,g6⟩:=ad.obj aA bL;subst hf;by_cases oq:o.c.aI=0
    ·by_cases hm:len=0
     ·subst hm;exact .inl ⟨rfl,_,_,rfl⟩
     right;refine ⟨⟨b,aK*o.c.aI,none⟩,cap,[],I,by simp [oq],fun j u hu=>by simp at hu,fun u hu=>by simp at hu,fun d j hd ae=>by omega⟩
    obtain ⟨mk,g1,_,_⟩:=g1.cells oq;by_cases hm:len=0
    ·subst hm;exact .inl ⟨rfl,_,_,rfl⟩
    right;have je: ∀t,t<len*o.c.aI→aK*o.c.aI+t<cur.size:=by intro t bu;rw [g2];have:(aK+len)*o.c.aI≤C*o.c.aI:=fp _ J;rw [eF] at this;omega
    refine ⟨⟨b,aK*o.c.aI,none⟩,cap,(List.range (len*o.c.aI)).map (fun t=>cur.getD (aK*o.c.aI+t) undef),I,b1,?_,?_,?_⟩
    ·intro j u hu;have ae:j<len*o.c.aI:=by simpa using (gZ.1 hu).1
     simp only [lB,vW ae,s8,dG] at hu;subst hu;have:=je j ae;simp [World.cell?,Addr.add_lit,g1,Array.getD,this]
    ·intro u hu;obtain ⟨t,bu,rfl⟩:=cS.1 hu;have ae:t<len*o.c.aI:=by simpa using bu
     have e3:0<o.c.aI:=zl (fun h=>by rw [h] at ae;simp at ae);have hd:t/o.c.aI<len:=(Nat.div_lt_iff_lt_mul e3).2 ae;obtain ⟨v,aE,_,bO⟩:=g6 (aK+t/o.c.aI) (t%o.c.aI) J (lz _ e3);have e:(aK+t/o.c.aI)*o.c.aI+t%o.c.aI=aK*o.c.aI+t:=by rw [eF,jU,Nat.div_add_mod']
     rw [e] at aE;simp [aE,bO]
    ·intro d j hd ae;obtain ⟨v,aE,aF,_⟩:=g6 (aK+d) j J ae;have bG:d*o.c.aI+j<len*o.c.aI:=by have:(d+1)*o.c.aI≤len*o.c.aI:=fp _ J;rw [eF] at this;omega
     have e:(aK+d)*o.c.aI+j=aK*o.c.aI+(d*o.c.aI+j):=by rw [eF];omega
     rw [e] at aE;exact ⟨v,by simp [bG,aE],aF⟩
 case iD h bL=>
  cases aA:H[h]? with
  |none=>simp [aA] at az
  |some ma=>cases ma with
   |none=>simp [aA] at az
   |some o=>
    simp only [aA,dG,zk] at az;obtain ⟨rfl,rfl,rfl⟩:=az;exact .inl ⟨I,none,0,I⟩
def Cells.app (c:Cells)(eH:Cells)(i m:Nat):Option Cells:=
 match c,eH with
 | .ints k l,.ints c1 gi=>match k,c1 with
  | .i64,.i64=>some (.ints k (l++(gi.drop i).take m))
  | .u8,.u8=>some (.ints k (l++(gi.drop i).take m))
  | .u64,.u64=>some (.ints k (l++(gi.drop i).take m))
  | .i32,.i32=>some (.ints k (l++(gi.drop i).take m))
  | .u32,.u32=>some (.ints k (l++(gi.drop i).take m))
  |_,_=>none
 | .strs l,.strs gi=>some (.strs (l++(gi.drop i).take m))
 |c,eH=>bif Nat.beq c.aI eH.aI then some (.fn (c.len+m) c.aI (fun aK j=>bif Nat.blt aK c.len then c.at aK j else eH.at (i+(aK-c.len)) j)) else none
theorem Cells.aam {c eH c':Cells}{i m:Nat}(h:c.app eH i m=some c')(ei:i+m≤eH.len):c'.aI=c.aI∧eH.aI=c.aI∧c'.len=c.len+m∧(∀aK j,aK<c.len→j<c.aI→c'.at aK j=c.at aK j)∧ ∀d j,d<m→j<c.aI→c'.at (c.len+d) j=eH.at (i+d) j:=by
 have bY:= ‹bx›;have gen:c'= .fn (c.len+m) c.aI (fun aK j=>bif Nat.blt aK c.len then c.at aK j else eH.at (i+(aK-c.len)) j)→c.aI=eH.aI→
  c'.aI=c.aI∧eH.aI=c.aI∧c'.len=c.len+m∧(∀aK j,aK<c.len→j<c.aI→c'.at aK j=c.at aK j)∧ ∀d j,d<m→j<c.aI→c'.at (c.len+d) j=eH.at (i+d) j:=by
  intro e az;subst e;refine ⟨I,az.symm,I,fun aK j aa ae=> ?_,fun d j hd ae=> ?_⟩
  ·have:Nat.blt aK c.len=true:=rb aa;simp [Cells.at,this]
  ·have:Nat.blt (c.len+d) c.len=false:=by
    cases ak:Nat.blt (c.len+d) c.len with
    |false=>rfl
    |true=>have:=iZ ak;omega
   simp [Cells.at,this]
 have Eb:(bif Nat.beq c.aI eH.aI then some (Cells.fn (c.len+m) c.aI (fun aK j=>bif Nat.blt aK c.len then c.at aK j else eH.at (i+(aK-c.len)) j)) else none)=some c'→
  c'.aI=c.aI∧eH.aI=c.aI∧c'.len=c.len+m∧(∀aK j,aK<c.len→j<c.aI→c'.at aK j=c.at aK j)∧ ∀d j,d<m→j<c.aI→c'.at (c.len+d) j=eH.at (i+d) j:=by
  intro h;cases ak:Nat.beq c.aI eH.aI with
  |false=>simp [ak] at h
  |true=>simp only [ak,lV,dG] at h;exact gen h.symm (pO ak)
 cases c with
 |ints k l=>
  cases eH with
  |ints c1 gi=>
   have:c'= .ints k (l++(gi.drop i).take m)∧k=c1:=by simp only [Cells.app] at h;cases k<;>cases c1<;>simp at h<;>exact ⟨h.symm,rfl⟩
   obtain ⟨rfl,rfl⟩:=this;simp only [Cells.len] at ei;refine ⟨I,I,by simp [Cells.len];omega,fun aK j aa ae=> ?_,fun d j hd ae=> ?_⟩
   ·simp only [Cells.len] at aa;simp [Cells.at,List.getD,oS,aa]
   ·have U: ¬l.length+d<l.length:=J;simp [Cells.at,Cells.len,List.getD,oS,hd,U]
  |_=>exact Eb h
 |strs l=>
  cases eH with
  |strs gi=>
   simp only [Cells.app,dG] at h;subst h;simp only [Cells.len] at ei;refine ⟨I,I,by simp [Cells.len];omega,fun aK j aa ae=> ?_,fun d j hd ae=> ?_⟩
   ·simp only [Cells.len] at aa;simp [Cells.at,List.getD,oS,aa]
   ·have U: ¬l.length+d<l.length:=J;simp [Cells.at,Cells.len,List.getD,oS,hd,U]
  |_=>exact Eb h
 |box l=>exact Eb h
 |fn n s f=>exact Eb h
 |mp ks vs=>exact Eb h
def Cells.simple:Cells→Bool
 | .ints _ _=>true
 | .strs _=>true
 |_=>false
theorem cd.l9 {c:Ctx} {w:World} {a:Act} {σ:Nat→Option bP} {S:Nat→Prop} {n:Nat} {fr:Fr} {H:aY} (ad:cd c w a σ S n fr H) {h:Nat} {o:bm} (aX:H[h]? =some (some o)) (bL:σ h=some .l9) {c':Cells} (cy:c'.aI=o.c.aI) (hlen:c'.len=0):
 cd c w a σ S n (oC h fr) ((c6 h H).set h (some ⟨o.ty,c'⟩)):=by
 have bG:h<H.length:=(gZ.1 aX).1;have x6:h<(c6 h H).length:=by rw [vg];exact bG
 have sw: ∀{x v},bz w S σ x v→bz w S σ (x.forget h) v:=fun af=>af.forget _ (fun _ _=>rfl);have c7: ∀aS o',((c6 h H).set h (some ⟨o.ty,c'⟩))[aS]? =some (some o')→(aS=h∧o'=⟨o.ty,c'⟩)∨(aS≠h∧ ∃dt,H[aS]? =some (some dt)∧o'=⟨dt.ty,dt.c.forget h⟩):=by
  intro aS o' ai;by_cases he:aS=h
  ·subst he;simp only [oP x6,dG] at ai;exact .inl ⟨I,ai.symm⟩
  ·rw [lW (ra he),I4] at ai;cases aA:H[aS]? with
   |none=>simp [aA] at ai
   |some ma=>cases ma with
    |none=>simp [aA,jl] at ai
    |some dt=>
     simp [aA,jl] at ai;exact .inr ⟨he,dt,I,ai.symm⟩
 refine ⟨⟨?_,?_,ad.ad.small,fun aS au=>ad.ad.ie aS (by simpa [vg] using au)⟩,⟨ad.bk.os,ad.bk.output,ad.bk.tape,ad.bk.size,ad.bk.block,ad.bk.hV,ad.bk.fb,ad.bk.fixed,fun aS aR=>by simpa [vg] using ad.bk.jF aS aR,?_⟩,ad.defers,ad.size,fun t v au=> ?_⟩
 ·intro aS o' ai;rcases c7 aS o' ai with ⟨rfl,rfl⟩|⟨ch,dt,rv,rfl⟩
  ·exact .inl ⟨bL,hlen⟩
  ·rcases ad.ad.live aS dt rv with ⟨aG,jH⟩|⟨b',cM,ja,g1,g2,g3,g4,g5,g6,g7⟩
   ·exact .inl ⟨aG,by simpa [Cells.zG] using jH⟩
   ·right;simp only [Cells.zG,Cells.He];refine ⟨b',cM,ja,g1,g2.forget I sw,g3,g4,g5,g6,fun i j aa ae=> ?_⟩;obtain ⟨v,aE,aF,bO⟩:=g7 i j aa ae;exact ⟨v,aE,by rw [Cells.Hd h dt.c i j ae];exact sw aF,bO⟩
 ·intro U ab o1 o2 b' s1 gL s2 gx g1 g2 aE aF;have t1: ∃o,H[U]? =some (some o):=by
   rcases c7 U o1 g1 with ⟨rfl,_⟩|⟨_,dt,g,_⟩
   ·exact ⟨_,aX⟩
   ·exact ⟨_,g⟩
  have t2: ∃o,H[ab]? =some (some o):=by
   rcases c7 ab o2 g2 with ⟨rfl,_⟩|⟨_,dt,g,_⟩
   ·exact ⟨_,aX⟩
   ·exact ⟨_,g⟩
  obtain ⟨_,t1⟩:=t1;obtain ⟨_,t2⟩:=t2;exact ad.ad.hB U ab _ _ b' s1 gL s2 gx t1 t2 aE aF
 ·intro aS o' b' ct cM ai ez;rcases c7 aS o' ai with ⟨rfl,_⟩|⟨_,dt,rv,_⟩
  ·rw [bL] at ez;cases ez
  ·exact ad.bk.own aS dt b' ct cM rv ez
 ·rw [Fp] at au;cases aA:look t fr with
  |none=>simp [aA] at au
  |some v0=>
   simp [aA] at au;subst au;exact ⟨(ad.fl t v0 aA).1,sw (ad.fl t v0 aA).2⟩
section
variable {P:Program}{fn:Func}{c:Ctx}{fr:Fr}{H:aY}{k:List eO}
theorem dI {all:Array Oper}{d:Nat}{t e:TypeId}{x y:Operand}{ty:TypeId}{pos:String}{after:Array Edge}{rest:List Oper}{inf:TypeInfo}{z:Value}{h n:Nat}{o:bm}{v:ao}{eH c':Cells}{i m:Nat}(bu:P.underlying t=some (.slice e))(aa:P.info? e=some inf)(bB:inf.zero=some z)(wO:inf.size=o.c.aI)(lF:z.cells.size=o.c.aI)(e3:Nat.blt 0 o.c.aI=true)(al:bH fr x=some (.aC h 0 n))(aX:H[h]? =some (some o))(afG:o.ty=e)(aG:o.c.len=n)(a1:bH fr y=some v)(az:DC H v=some (eH,i,m))(ei:i+m≤eH.len)(aeb:o.c.app eH i m=some c')(ak:(n+m)*inf.bytes≤140737488355328∧n+m≤9223372036854775807)(uT: ∀i j,i<c'.len→j<c'.aI→(c'.at i j).forget h=c'.at i j)(bJ: ¬c.fix h)(an:aj P fn c (.ops false all rest k) ((d,.aC h 0 (n+m))::oC h fr) ((c6 h H).set h (some ⟨e,c'⟩))):aj P fn c (.ops false all (⟨some d,.call {callee:= .builtin .append,args:= #[x,y],argTypes:= #[t,t]},ty,pos,after,none⟩::rest) k) fr H:=by
 refine uD (fun w a σ S ad=> ?_) an;subst afG;obtain ⟨c4,fv,mD,nh,E6⟩:=Cells.aam aeb ei;have HU:0<o.c.aI:=iZ e3;have U:=ad.ek al;have ab:=ad.ek a1;have uU:=ad.src ab az (fun _ _=>ei);have mY: ∀r w',(Builtin.append_ #[t,t] ty #[a.eval x,a.eval y]).run P w= .ok r w'→(execOp a.eval ⟨some d,.call {callee:= .builtin .append,args:= #[x,y],argTypes:= #[t,t]},ty,pos,after,none⟩).run P w= .ok (.value r) w':=by intro r w' h;simp [execOp,resolve,invoke,builtin,h]
 generalize Ib:a.eval x=Ux at U mY;generalize nf:a.eval y=Uy at ab uU mY;unfold Src at uU;rw [fv] at uU
 --what the old cells and the new ones give
 cases U with
 |aC _ _ _ _ b s C cap bL hlen kh=>
  subst aG;obtain ⟨hf,cur,g1,g2,g3,g4,g5,g6⟩:=ad.obj aX bL;subst hf;have aev:cap=C:=J;subst aev;obtain ⟨mk,g1,lj,g3⟩:=g1.cells J;have holds: ∀aK j,aK<o.c.len→j<o.c.aI→ ∃u,(cur.toList.take (o.c.len*o.c.aI))[aK*o.c.aI+j]? =some u∧bz w S σ (c'.at aK j) u∧u.oneCell'=true:=by
   intro aK j aQ ae;obtain ⟨u,aE,aF,bO⟩:=g6 aK j aQ ae;have bG:aK*o.c.aI+j<o.c.len*o.c.aI:=by have:(aK+1)*o.c.aI≤o.c.len*o.c.aI:=fp _ J;rw [eF] at this;omega
   refine ⟨u,?_,by rw [nh aK j aQ ae];exact aF,bO⟩;rw [qs,aB bG];simpa using aE
  have arf:o.c.len*o.c.aI≤cur.size:=by rw [g2];exact fp _ hlen
  rcases uU with ⟨rfl,nC,rl,rfl⟩|⟨jD,rl,news,rfl,bQ,bX,dr,en⟩
  ·--nothing appended
   have eR:(Builtin.append_ #[t,t] ty #[.slice (some ⟨b,0*o.c.aI,none⟩) o.c.len cap,.slice nC 0 rl]).run P w= .ok (.slice (some ⟨b,0*o.c.aI,none⟩) o.c.len cap) w:=by cases nC<;>simp [Builtin.append_,run_underlying bu,sizeOf,typeInfo,aa,Builtin.lenOf,hlen,Builtin.firstCells,loadCells,loadCellsFrom,storeCells]
   refine ⟨_,w,_,S,mY _ _ eR,ad.M9 (C:=cap) (cur:=cur) aX I I I (bN _) c4 (fun _ _ _=>rfl) g1 (by rw [c4];exact g2) g3 J (.inr bL) (.inr bL) (fun aK j aQ ae=> ?_) uT lj,?_⟩
   ·rw [mD] at aQ;rw [c4] at ae⊢;obtain ⟨u,aE,aF,bO⟩:=g6 aK j J ae;exact ⟨u,aE,by rw [nh aK j J ae];exact aF,bO⟩
   ·rw [←c4];exact .aC _ _ _ _ _ _ cap _ (by simp [cZ]) J J
  ·by_cases EN:o.c.len+m≤cap
   ·have ss:o.c.len*o.c.aI+news.length≤cur.size:=by rw [bQ,g2,←eF];exact fp _ EN
    have eR:=alD (P:=P) w t ty o.ty inf bu aa b o.c.len cap cur g1 lj jD m rl news (by rw [wO];exact bQ) bX dr EN (by rw [wO];exact ss);rw [wO] at eR;have cB:(cur.toList.take (o.c.len*o.c.aI)).length=o.c.len*o.c.aI:=by simp;omega
    refine ⟨_,_,_,S,mY _ _ (by simpa using eR),ad.M9 (w':=w.setRow b (cur.toList.take (o.c.len*o.c.aI)++news++cur.toList.drop (o.c.len*o.c.aI+news.length)).toArray) (c':=c') (C:=cap) aX I I I b1 c4 (fun b' _ ez=>setRow_other w b b' _ ez) (setRow_heap w b cur _ _ _ g1) ?_ g3 J (.inr bL) (.inr bL) (fun aK j aQ ae=> ?_) uT ?_,?_⟩
    ·rw [c4,←g2];simp;omega
    ·rw [mD] at aQ;rw [c4] at ae⊢;by_cases zY:aK<o.c.len
     ·obtain ⟨u,aE,aF,bO⟩:=holds aK j zY ae;refine ⟨u,?_,aF,bO⟩;have bG:aK*o.c.aI+j<o.c.len*o.c.aI:=by have:(aK+1)*o.c.aI≤o.c.len*o.c.aI:=fp _ J;rw [eF] at this;omega
      simp only [Bh,mr];rw [ic J];exact aE
     ·obtain ⟨u,aE,aF⟩:=en (aK-o.c.len) j J ae;refine ⟨u,?_,?_,dr u (pS aE)⟩
      ·have uQ:aK*o.c.aI+j=o.c.len*o.c.aI+((aK-o.c.len)*o.c.aI+j):=by rw [←jU,←eF];congr 2;omega
       have bG:(aK-o.c.len)*o.c.aI+j<news.length:=(gZ.1 aE).1;simp only [Bh,mr];rw [uQ,jV J,cB,xF,ic bG];exact aE
      ·have:=E6 (aK-o.c.len) j J ae;rw [show o.c.len+(aK-o.c.len)=aK by omega] at this;rw [this];exact aF
    ·have cy:(cur.toList.take (o.c.len*o.c.aI)++news++cur.toList.drop (o.c.len*o.c.aI+news.length)).toArray.size=cur.size:=by simp;omega
     rw [cy];exact lj
    ·have:=bz.aC (w:=w.setRow b (cur.toList.take (o.c.len*o.c.aI)++news++cur.toList.drop (o.c.len*o.c.aI+news.length)).toArray) (S:=S) (cZ σ h (.at b c'.aI cap)) h 0 (o.c.len+m) b c'.aI cap cap (by simp [cZ]) EN J;simpa using this
   ·have tE:(cur.toList.take (o.c.len*o.c.aI)).length=o.c.len*inf.size:=by rw [wO];simp;omega
    have eR:=run_append_grow (P:=P) w t ty o.ty inf z bu aa bB ⟨b,0,none⟩ o.c.len cap (cur.toList.take (o.c.len*o.c.aI)) tE (fun j u hu=> ?_) jD m rl news (by rw [wO];exact bQ) bX J J (growslice_fits J ak.1)
    rotate_left
    ·rw [qs] at hu;split at hu
     ·simp [World.cell?,Addr.add_lit,g1];simpa using hu
     ·cases hu
    have pX:=grownCap_ge w (o.c.len+m) cap o.ty;have hle:=grownCap_le_maxLen w (o.c.len+m) cap o.ty (by unfold maxLen;omega);generalize grownCap w (o.c.len+m) cap o.ty=G at eR pX hle;generalize arp:cur.toList.take (o.c.len*o.c.aI)=xs at eR holds tE;rw [wO] at tE;refine ⟨_,w.drew.alloc (.cells (xs.toArray++news.toArray++Builtin.zeroCells z.cells (G-(o.c.len+m))) o.ty),_,S,mY _ _ (by rw [ux];exact eR),cd.Tw (w:=w) (c':=c') (C:=G) (b:=w.heap.size) (cur:=xs.toArray++news.toArray++Builtin.zeroCells z.cells (G-(o.c.len+m))) ad aX I I I b1 c4 (fun b' ez _=>Below.heap_alloc w.drew (.cells (xs.toArray++news.toArray++Builtin.zeroCells z.cells (G-(o.c.len+m))) o.ty) b' ez) (heap_alloc_new w.drew _) ?_ hle J (.inl (bN _)) (.inl bJ) (fun aK j aQ ae=> ?_) uT,?_⟩
    ·simp only [Array.size_append,List.size_toArray,size_zeroCells,tE,bQ,lF,c4,←eF];congr 1;omega
    ·rw [mD] at aQ;rw [c4] at ae⊢;by_cases zY:aK<o.c.len
     ·obtain ⟨u,aE,aF,bO⟩:=holds aK j zY ae;refine ⟨u,?_,aF,bO⟩;have bG:=(gZ.1 aE).1;rw [Array.append_assoc,GN (by simpa using bG)];simpa using aE
     ·obtain ⟨u,aE,aF⟩:=en (aK-o.c.len) j J ae;refine ⟨u,?_,?_,dr u (pS aE)⟩
      ·have uQ:aK*o.c.aI+j=o.c.len*o.c.aI+((aK-o.c.len)*o.c.aI+j):=by rw [←jU,←eF];congr 2;omega
       have bG:(aK-o.c.len)*o.c.aI+j<news.length:=(gZ.1 aE).1;rw [Array.append_assoc,uQ,Array.getElem?_append_right (by simp [tE]),GN (by simp [tE];exact bG)];simp [tE];exact aE
      ·have:=E6 (aK-o.c.len) j J ae;rw [show o.c.len+(aK-o.c.len)=aK by omega] at this;rw [this];exact aF
    ·have:=bz.aC (w:=w.drew.alloc (.cells (xs.toArray++news.toArray++Builtin.zeroCells z.cells (G-(o.c.len+m))) o.ty)) (S:=S) (cZ σ h (.at w.heap.size c'.aI G)) h 0 (o.c.len+m) w.heap.size c'.aI G G (by simp [cZ]) pX J;simpa using this
 |iD _ _ bL=>
  have jH:o.c.len=0:=aG;rcases uU with ⟨rfl,nC,rl,rfl⟩|⟨jD,rl,news,rfl,bQ,bX,dr,en⟩
  ·have eR:(Builtin.append_ #[t,t] ty #[.slice none 0 0,.slice nC 0 rl]).run P w= .ok (.slice none 0 0) w:=by cases nC<;>simp [Builtin.append_,run_underlying bu,sizeOf,typeInfo,aa,Builtin.lenOf,Builtin.firstCells,loadCells,loadCellsFrom]
   refine ⟨_,w,σ,S,mY _ _ eR,ad.l9 aX bL c4 J,?_⟩;exact .iD _ _ bL
  ·by_cases hm:m=0
   ·subst hm;have eR:(Builtin.append_ #[t,t] ty #[.slice none 0 0,.slice (some jD) 0 rl]).run P w= .ok (.slice none 0 0) w:=by simp [Builtin.append_,run_underlying bu,sizeOf,typeInfo,aa,Builtin.lenOf,Builtin.firstCells,loadCells,loadCellsFrom]
    refine ⟨_,w,σ,S,mY _ _ eR,ad.l9 aX bL c4 J,?_⟩;exact .iD _ _ bL
   ·have eR:=run_append_nil (P:=P) w t ty o.ty inf z bu aa bB jD m rl news (by rw [wO];exact bQ) bX J J (by
     have tx:=ak.1;rw [cR] at tx;omega)
    have pX:=grownCap_ge w m 0 o.ty;have hle:=grownCap_le_maxLen w m 0 o.ty (by unfold maxLen;omega);generalize grownCap w m 0 o.ty=G at eR pX hle;refine ⟨_,w.drew.alloc (.cells (news.toArray++Builtin.zeroCells z.cells (G-m)) o.ty),_,S,mY _ _ eR,cd.Tw (w:=w) (c':=c') (C:=G) (b:=w.heap.size) (cur:=news.toArray++Builtin.zeroCells z.cells (G-m)) ad aX I I I b1 c4 (fun b' ez _=>Below.heap_alloc w.drew (.cells (news.toArray++Builtin.zeroCells z.cells (G-m)) o.ty) b' ez) (heap_alloc_new w.drew _) ?_ hle J (.inl (bN _)) (.inl bJ) (fun aK j aQ ae=> ?_) uT,?_⟩
    ·simp only [Array.size_append,List.size_toArray,size_zeroCells,bQ,lF,c4,←eF];congr 1;omega
    ·rw [mD] at aQ;rw [c4] at ae⊢;obtain ⟨u,aE,aF⟩:=en aK j J ae;refine ⟨u,?_,?_,dr u (pS aE)⟩
     ·have bG:=(gZ.1 aE).1;rw [GN (by simpa using bG)];simpa using aE
     ·have:=E6 aK j J ae;rw [show o.c.len+aK=aK by omega] at this;rw [this];exact aF
    ·have:=bz.aC (w:=w.drew.alloc (.cells (news.toArray++Builtin.zeroCells z.cells (G-m)) o.ty)) (S:=S) (cZ σ h (.at w.heap.size c'.aI G)) h 0 m w.heap.size c'.aI G G (by simp [cZ]) pX J;simpa [jH] using this
end
end Go.aj
namespace Go.aj
variable [bx]
open Go.RowKit
def rW (σ:Nat→Option bP)(H:aY)(b:Nat):Prop:= ∃h o s C,H[h]? =some (some o)∧σ h=some (.at b s C)
def qf (w:World)(S:Nat→Prop)(σ:Nat→Option bP)(H:aY):Prop:= ∀(w':World) (cb:Nat→Prop),(∀b,S b→cb b)→w.heap.size≤w'.heap.size→(∀b,b<w.heap.size→ ¬rW σ H b→w'.heap[b]? =w.heap[b]?)→bx.G w' cb
theorem qf.less {w:World}{S fb:Nat→Prop}{σ ur:Nat→Option bP}{H QH:aY}(h:qf w S σ H)(dm: ∀b,S b→fb b)(ai: ∀b,rW ur QH b→rW σ H b):qf w fb ur QH:=
 fun w' cb U ab ay=>h w' cb (fun b ak=>U b (dm b ak)) ab (fun b ak aG=>ay b ak (fun q=>aG (ai b q)))
theorem qf.now {w:World}{S:Nat→Prop}{σ:Nat→Option bP}{H:aY}(h:qf w S σ H):bx.G w S:=h w S (fun _ h=>h) (bN _) (fun _ _ _=>rfl)
def oD (w:World)(S:Nat→Prop)(σ:Nat→Option bP)(H:aY)(fix:Nat→Prop)(R:ao→aY→Prop)(aD:qf w S σ H):Ctx:=⟨w,S,rW σ H,σ,fix,R,aD⟩
theorem rW.nil {σ:Nat→Option bP}{H:aY}{b:Nat}(h:rW (fun _=>none) [] b):rW σ H b:=by have bY:= ‹bx›;obtain ⟨h,o,s,C,U,_⟩:=h;simp at U
def pH (w:World)(S:Nat→Prop)(σ:Nat→Option bP)(args:List ao)(dH:Array Value):Prop:=
 dH.size=args.length∧ ∀i,i<args.length→bz w S σ (args.getD i .any) (dH.getD i undef)
def cm (P:Program)(f:FuncId)(args:List ao)(H:aY)(fix:Nat→Prop)(K:ao→aY→Prop):Prop:=
 (∃fn,P.funcs[f]? =some fn∧(fn.name== "runtime.NumGoroutine")=false∧fn.body.isNone=false)∧
 ∀w σ S dH (aD:qf w S σ H),lU w S σ H→(∀h,fix h→h<H.length)→pH w S σ args dH→
  Calls P f dH w (fun e w'=> ∃v r bC cb bK,e= .returned v∧lU w' cb bC bK∧bz w' cb bC r v∧xB (oD w S σ H fix K aD) w' cb bC bK∧K r bK)
section
variable {P:Program}{fn:Func}{c:Ctx}{fr:Fr}{H:aY}{k:List eO}
theorem amP {w:World}{a:Act}{σ:Nat→Option bP}{S:Nat→Prop}{n:Nat}(ad:cd c w a σ S n fr H){r:ResultVar}{v:ao}(h:Gw P fr H r=some v):
 ∃x,((match r with
  | .tmp t=>pure (a.tmps.getD t undef)
  | .cell jD t=>do loadVar t (←asAddr (a.tmps.getD jD undef)):Sem Value)).run P w= .ok x w∧bz w S σ v x:=by
 cases r with
 |tmp t=>exact ⟨_,rfl,(ad.fl t v h).2⟩
 |cell t ty=>
  simp only [Gw] at h;cases U:look t fr with
  |none=>simp [U] at h
  |some p=>
   cases p<;>try (simp [U] at h;done)
   rename_i bg i j;cases i with
   |succ _=>simp [U] at h
   |zero=>cases j with
    |succ _=>simp [U] at h
    |zero=>
     simp only [U] at h;cases ab:H[bg]? with
     |none=>simp [ab] at h
     |some ma=>cases ma with
      |none=>simp [ab] at h
      |some o=>
       simp only [ab] at h;obtain ⟨o7,ahW⟩:=o;cases ahW<;>try (simp at h;done)
       rename_i l;simp only at h;have ay:=(ad.fl t _ U).2;generalize bB:a.tmps.getD t undef=z at ay;cases ay with
       |ptr _ _ _ _ b s C bL=>
        obtain ⟨az,cur,g1,g2,g3,g4,g5,g6⟩:=ad.obj ab bL;simp only [Cells.aI] at az g2 g6;simp only [Cells.len] at g4 g6;have oi: ∀j,j<l.length→ ∃x,w.cell? ⟨b,j,none⟩=some x∧bz w S σ (l.getD j .any) x∧x.oneCell'=true:=by intro j ae;obtain ⟨mk,g1,_,_⟩:=g1.cells (by show l.length≠0;omega);obtain ⟨x,aE,aF,bO⟩:=g6 0 j J ae;refine ⟨x,?_,aF,bO⟩;simp only [ux,cR] at aE;simp [World.cell?,g1,aE]
        have R8: ∀inf:TypeInfo,P.info? ty=some inf→Nat.beq inf.size l.length=true→jy (P.underlying ty|>.getD .string)=true→(P.underlying ty).isSome=true→
         ∃x,(loadVar ty ⟨b,0,none⟩).run P w= .ok x w∧bz w S σ (.agg l) x:=by
         intro inf iR cy Hr afZ;obtain ⟨u,hu⟩:=Option.isSome_iff_exists.1 afZ;have qI:=pO cy
         let cs:List Value:=(List.range l.length).map (fun j=>(w.cell? ⟨b,j,none⟩).getD undef)
         have au:=run_loadCells_list (P:=P) w ⟨b,0,none⟩ cs (fun j v af=>by
          have ae:j<l.length:=by simpa [cs] using (gZ.1 af).1
          obtain ⟨x,aE,_,_⟩:=oi j ae;simp only [cs,lB,vW ae,s8,dG] at af;subst af;simp [Addr.add_lit,aE])
         have hC:cs.length=inf.size:=by simp [cs,qI]
         refine ⟨.agg cs.toArray,?_,.agg _ _ _ (by simp [cs]) (fun j ae=> ?_) (fun j ae=> ?_)⟩
         ·have MK:jy u=true:=by rw [hu] at Hr;exact Hr
          rw [hC] at au;simp [loadVar,yR hu,MK,sizeOf,typeInfo,iR,au]
         ·obtain ⟨x,aE,aF,_⟩:=oi j ae;simpa [cs,Array.getD,ae,aE] using aF
         ·obtain ⟨x,aE,_,bO⟩:=oi j ae;simpa [cs,Array.getD,ae,aE] using bO
        have z6: ∀u,P.underlying ty=some u→jy u=false→Nat.beq 1 l.length=true→l[0]? =some v→ ∃x,(loadVar ty ⟨b,0,none⟩).run P w= .ok x w∧bz w S σ v x:=by
         intro u hu Hr cy af;have qI:=pO cy;obtain ⟨x,aE,aF,_⟩:=oi 0 J;have:l.getD 0 .any=v:=by simp [List.getD,af]
         rw [this] at aF;exact ⟨x,by simp [loadVar,yR hu,Hr,load,Sem.run,aE],aF⟩
        have fin:(∃x,(loadVar ty ⟨b,0,none⟩).run P w= .ok x w∧bz w S σ v x)→ ∃x,(do loadVar ty (←asAddr (.pointer (some ⟨b,0*s+0,none⟩))):Sem Value).run P w= .ok x w∧bz w S σ v x:=by rintro ⟨x,aE,aF⟩;exact ⟨x,by simp [asAddr,aE],aF⟩
        show∃x,(do loadVar ty (←asAddr (a.tmps.getD t undef)):Sem Value).run P w= .ok x w∧bz w S σ v x;rw [bB];apply fin;cases hu:P.underlying ty with
        |none=>simp [hu] at h
        |some u=>
         cases iR:P.info? ty with
         |none=>
          cases u<;>simp only [hu,iR] at h<;>try (cases h;done)
          all_goals
           cases ak:Nat.beq 1 l.length with
           |false=>simp [ak] at h
           |true=>simp only [ak,lV] at h;exact z6 _ hu rfl ak h
         |some inf=>
          cases u<;>simp only [hu,iR] at h
          case struct=>
           cases ak:Nat.beq inf.size l.length with
           |false=>simp [ak] at h
           |true=>simp only [ak,lV,dG] at h;subst h;exact R8 inf iR ak (by simp [hu,jy]) (by simp [hu])
          case array=>
           cases ak:Nat.beq inf.size l.length with
           |false=>simp [ak] at h
           |true=>simp only [ak,lV,dG] at h;subst h;exact R8 inf iR ak (by simp [hu,jy]) (by simp [hu])
          all_goals
           cases ak:Nat.beq 1 l.length with
           |false=>simp [ak] at h
           |true=>simp only [ak,lV] at h;exact z6 _ hu rfl ak h
theorem ams {w:World}{a:Act}{σ:Nat→Option bP}{S:Nat→Prop}{n:Nat}(ad:cd c w a σ S n fr H){vs:List ao}(h:ug P fr H fn.results.toList=some vs):
 ∃x,(results fn a.tmps).run P w= .ok x w∧bz w S σ (gP vs) x:=by
 have key: ∀(rs:List ResultVar) (vs:List ao),ug P fr H rs=some vs→ ∃xs:List Value,(rs.mapM (fun (r:ResultVar)=>((match r with
  | .tmp t=>pure (a.tmps.getD t undef)
  | .cell jD t=>do loadVar t (←asAddr (a.tmps.getD jD undef))):Sem Value))).run P w= .ok xs w∧xs.length=vs.length∧ ∀i,i<vs.length→bz w S σ (vs.getD i .any) (xs.getD i undef):=by
  intro rs;induction rs with
  |nil=>intro vs h;simp [ug] at h;subst h;exact ⟨[],b1,rfl,fun i aa=>by simp at aa⟩
  |cons r rs a6=>
   intro vs h;simp only [ug] at h;cases U:Gw P fr H r with
   |none=>simp [U] at h
   |some v=>
    cases ab:ug P fr H rs with
    |none=>simp [U,ab] at h
    |some Nx=>
     simp [U,ab] at h;subst h;obtain ⟨x,aE,aF⟩:=amP ad U;obtain ⟨xs,i1,i2,i3⟩:=a6 Nx ab;refine ⟨x::xs,?_,by simp [i2],fun i aa=> ?_⟩
     ·rw [List.mapM_cons,Sem.run_bind,aE];simp only [Result.andThen_ok,Sem.run_bind,i1,Sem.run_pure]
     ·cases i with
      |zero=>exact aF
      |succ i=>simpa using i3 i (by simpa using aa)
 obtain ⟨xs,aE,aF,bO⟩:=key _ _ h;refine ⟨if h:xs.toArray.size=1 then xs.toArray[0] else .tuple xs.toArray,?_,?_⟩
 ·unfold results;rw [Array.mapM_eq_mapM_toList];simp only [Sem.run_bind,Sem.run_map];have agV: ∀r:Result (List Value),r= .ok xs w→((r.andThen fun a w'=>Result.ok a.toArray w').andThen fun (a:Array Value) w'=>Sem.run P (pure (if h:a.size=1 then a[0] else Value.tuple a)) w')=Result.ok (if h:xs.toArray.size=1 then xs.toArray[0] else Value.tuple xs.toArray) w:=by rintro _ rfl;rfl
  exact agV _ aE
 ·match vs,xs,aF with
  |[v],[x],_=>exact bO 0 b1
  |[],[],_=>exact .ck _ _ _ rfl (fun i aa=>by simp at aa)
  |v1::v2::r,jJ::kq::q,aF=>
   have: ¬(jJ::kq::q).toArray.size=1:=b1;rw [dif_neg this];refine .ck _ _ _ (by simpa using aF) (fun i aa=> ?_);have:=bO i aa;have bG:i<(jJ::kq::q).length:=by rw [aF];exact aa
   have e:(jJ::kq::q).toArray.getD i undef=(jJ::kq::q).getD i undef:=by simp only [Array.getD,List.size_toArray,bG,vV,List.getD,n8 bG,pR];rfl
   rw [e];exact this
def A0:Nat→List ao→Fr
 |_,[]=>[]
 |i,v::r=>(i,v)::A0 (i+1) r
theorem amM (args:List ao): ∀i t v,look t (A0 i args)=some v→i≤t∧t<i+args.length∧args.getD (t-i) .any=v:=by
 have bY:= ‹bx›;induction args with
 |nil=>intro i t v h;simp [A0,look] at h
 |cons x r a6=>
  intro i t v h;simp only [A0,look] at h;by_cases he:t=i
  ·subst he;simp at h;subst h;exact ⟨bN _,b1,b1⟩
  ·simp only [dz he,oN] at h;obtain ⟨U,ab,ay⟩:=a6 (i+1) t v h;refine ⟨J,by simp;omega,?_⟩;rw [show t-i=(t-(i+1))+1 by omega];simpa using ay
theorem hx {f:FuncId}{code:Code}{args:List ao}{fix:Nat→Prop}{R:ao→aY→Prop}(aR:P.funcs[f]? =some fn)(ak:fn.body=some code)(aG:(fn.name== "runtime.NumGoroutine")=false)(cy:Nat.ble args.length fn.ntmps=true)(h: ∀c:Ctx,c.R=R→c.fix=fix→aj P fn c (.code code []) (A0 0 args) H):cm P f args H fix R:=by
 refine ⟨⟨fn,aR,aG,by rw [ak];rfl⟩,fun w σ S dH Mw tz hD af=> ?_⟩;refine calls_of_wp aR ak ?_;have agd:args.length≤fn.ntmps:=iZ cy;have kl:cd (oD w S σ H fix R Mw) w {tmps:=dH++Array.replicate (fn.ntmps-dH.size) undef,defers:=[]} σ S fn.ntmps (A0 0 args) H:=by
  refine ⟨tz,⟨I,I,I,bN _,fun _ _ _=>rfl,fun _ h=>h,fun _ h=> .inl h,fun _ _=>rfl,hD,fun h o b s C U ab=> .inl ⟨h,o,s,C,U,ab⟩⟩,I,by simp [af.1];omega,fun t v au=> ?_⟩;obtain ⟨_,ab,ay⟩:=amM args 0 t v au;simp only [cR,xG] at ab ay;refine ⟨J,?_⟩;have:=af.2 t ab;rw [ay] at this;have bG:t<dH.size:=by rw [af.1];exact ab
  have e:(dH++Array.replicate (fn.ntmps-dH.size) undef).getD t undef=dH.getD t undef:=by simp [DM,bG]
  rw [e];exact this
 refine wp_mono (h (oD w S σ H fix R Mw) I I w _ σ S kl) ?_;rintro e ly w' ⟨bC,cb,iu,bK,fU,aD⟩;obtain ⟨he,vs,EV,ar⟩:=aD;obtain ⟨x,al,agq⟩:=ams fU EV;have fin:ly.defers=[]∧ ∃v,(results fn ly.tmps).run P w'= .ok v w'∧ ∃Ut r QD K4 K1,Ending.returned v= .returned Ut∧lU w' K4 QD K1∧bz w' K4 QD r Ut∧xB (oD w S σ H fix R Mw) w' K4 QD K1∧R r K1:=
  ⟨fU.defers,x,al,x,gP vs,bC,cb,bK,rfl,fU.ad,agq,fU.bk,ar⟩
 rcases he with rfl|rfl
 ·exact fin
 ·exact fin
def lb (fr:Fr):List Operand→Option (List ao)
 |[]=>some []
 |x::r=>match bH fr x with
  |some v=>match lb fr r with
   |some l=>some (v::l)
   |none=>none
  |none=>none
theorem FT {w:World}{a:Act}{σ:Nat→Option bP}{S:Nat→Prop}{n:Nat}(ad:cd c w a σ S n fr H): ∀(xs:List Operand) (l:List ao),lb fr xs=some l→xs.length=l.length∧ ∀i,i<l.length→bz w S σ (l.getD i .any) ((xs.map a.eval).getD i undef)
 |[],l,h=>by simp [lb] at h;subst h;exact ⟨rfl,fun i aa=>by simp at aa⟩
 |x::r,l,h=>by
  simp only [lb] at h;cases U:bH fr x with
  |none=>simp [U] at h
  |some v=>
   cases ab:lb fr r with
   |none=>simp [U,ab] at h
   |some gi=>
    simp [U,ab] at h;subst h;obtain ⟨i1,i2⟩:=FT ad r gi ab;refine ⟨by simp [i1],fun i aa=> ?_⟩;cases i with
    |zero=>exact ad.ek U
    |succ i=>simpa using i2 i (by simpa using aa)
theorem cd.called {w w':World}{a:Act}{σ bC:Nat→Option bP}{S cb:Nat→Prop}{n:Nat}{bK:aY}{fix:Nat→Prop}{K:ao→aY→Prop}(ad:cd c w a σ S n fr H)(hp: ∀h,h<H.length→fix h)(tz:lU w' cb bC bK){aD:qf w S σ H}(jZ:xB (oD w S σ H fix K aD) w' cb bC bK):
 cd c w' a bC cb n fr bK:=by
 have bL: ∀h B,σ h=some B→bC h=some B:=by
  intro h B cf;have bG:h<H.length:=by
   rcases gA h H.length with au|au
   ·exact au
   ·rw [ad.ad.ie h au] at cf;cases cf
  have:=jZ.fixed h (hp h bG);rw [this];exact cf
 have LB: ∀b,S b→ ¬rW σ H b:=by rintro b az ⟨h,o,s,C,U,ab⟩;exact (ad.obj U ab).2.choose_spec.2.2.2.2.1 az
 have dm: ∀b,S b→w'.heap[b]? =w.heap[b]? :=fun b az=>jZ.block b (ad.ad.small b az) (LB b az);refine ⟨tz,?_,ad.defers,ad.size,fun t v au=>⟨(ad.fl t v au).1,(ad.fl t v au).2.mono jZ.hV dm _ bL⟩⟩;refine ⟨jZ.os.trans ad.bk.os,jZ.output.trans ad.bk.output,jZ.tape.trans ad.bk.tape,dU ad.bk.size jZ.size,fun b ak ai=> ?_,fun b ak=>jZ.hV b (ad.bk.hV b ak),fun b ak=> ?_,fun h aR=> ?_,fun h aR=>jZ.jF h (hp h (ad.bk.jF h aR)),fun h o b s C U ab=> ?_⟩
 ·rw [←ad.bk.block b ak ai];have tC:=ad.bk.size;refine jZ.block b (by simp only [oD];omega) ?_;rintro ⟨h,o,s,C,U,ab⟩;rcases ad.bk.own h o b s C U ab with ay|ay
  ·exact ai ay
  ·omega
 ·rcases jZ.fb b ak with U|U|U
  ·exact ad.bk.fb b U
  ·obtain ⟨h,o,s,C,g1,g2⟩:=U;rcases ad.bk.own h o b s C g1 g2 with g3|g3
   ·exact .inr (.inl g3)
   ·exact .inr (.inr g3)
  ·right;right;have:=ad.bk.size;simp only [oD] at U;omega
 ·rw [jZ.fixed h (hp h (ad.bk.jF h aR))];exact ad.bk.fixed h aR
 ·rcases jZ.own h o b s C U ab with ⟨aS,o',ct,cM,g1,g2⟩|ay
  ·exact ad.bk.own aS o' b ct cM g1 g2
  ·right;have:=ad.bk.size;simp only [oD] at ay;omega
theorem cd.TL {w:World}{a:Act}{σ:Nat→Option bP}{S:Nat→Prop}{n:Nat}(ad:cd c w a σ S n fr H):qf w S σ H:=by
 intro w' cb U ab ay;refine c.aiC w' cb (fun b ak=>U b (ad.bk.hV b ak)) (dU ad.bk.size ab) (fun b ak ai=> ?_);have az:=ad.bk.size;rw [ay b J ?_,ad.bk.block b ak ai];rintro ⟨h,o,s,C,g1,g2⟩;rcases ad.bk.own h o b s C g1 g2 with g|g
 ·exact ai g
 ·omega
theorem Db {all:Array Oper}{d:Option Nat}{g:Operand}{args:List Operand}{hZ:Array TypeId}{ty:TypeId}{pos:String}{after:Array Edge}{rest:List Oper}{f:FuncId}{cD dZ gz:List ao}{fix:Nat→Prop}{K:ao→aY→Prop}(c9:bH fr g=some (.fn f cD))(aW:lb fr args=some dZ)(has:dZ++cD=gz)(lg:cm P f gz H fix K)(hp: ∀h,h<H.length→fix h)(hD: ∀h,fix h→h<H.length)(an: ∀r bK,K r bK→aj P fn c (.ops false all rest k) (match d with|some d=>(d,r)::fr|none=>fr) bK):aj P fn c (.ops false all (⟨d,.call {callee:= .value g,args:=args.toArray,argTypes:=hZ},ty,pos,after,none⟩::rest) k) fr H:=by
 intro hd w a σ S ad;obtain ⟨jr,jG⟩:=tW hd;obtain ⟨⟨ade,BK,L7,HB⟩,av⟩:=lg;subst has;have U:=ad.ek c9;obtain ⟨aE,aF⟩:=FT ad args dZ aW;generalize bB:a.eval g=z at U;refine wpList_step (fun kB Lx=> ?_);simp only [Region.wanted,gg];unfold Oper.wp;cases U with
 |fn _ _ _ vs au af=>
  have eR:(execOp a.eval ⟨d,.call {callee:= .value g,args:=args.toArray,argTypes:=hZ},ty,pos,after,none⟩).run P w= .ok (.enter f ((args.map a.eval).toArray++vs)) w:=by simp only [execOp,resolve,bB,Deferred.ofValue,Sem.run_bind,Sem.run_pure,Result.andThen_ok,invoke,callFunc,List.map_toArray,Array.empty_append,program,Sem.run,BK];simp [L7,HB]
  rw [eR];have Hs:pH w S σ (dZ++cD) ((args.map a.eval).toArray++vs):=by
   refine ⟨by simp [aE,au],fun i aa=> ?_⟩;simp only [di] at aa;by_cases bG:i<dZ.length
   ·have:=aF i bG;have x6:i<args.length:=J;have l0:(dZ++cD).getD i .any=dZ.getD i .any:=by simp [List.getD,oS,bG]
    have kK:((args.map a.eval).toArray++vs).getD i undef=(args.map a.eval).getD i undef:=by simp [DM,x6,List.getD]
    rw [l0,kK];exact this
   ·have:=af (i-dZ.length) J;have j0: ¬i<args.length:=J;have l0:(dZ++cD).getD i .any=cD.getD (i-dZ.length) .any:=by simp [List.getD,oS,bG]
    have kK:((args.map a.eval).toArray++vs).getD i undef=vs.getD (i-dZ.length) undef:=by simp [DM,aE,bG]
    rw [l0,kK];exact this
  refine Calls.mono (av w σ S _ ad.TL ad.ad hD Hs) ?_;rintro e w' ⟨v,r,bC,cb,bK,rfl,g1,g2,g3,g4⟩;have kl:=ad.called hp g1 g3;refine Lx _ _ ?_;cases d with
  |none=>exact an r bK g4 jG w' _ bC cb kl
  |some d=>exact an r bK g4 jG w' _ bC cb (kl.put g2 (jr d rfl))
end
end Go.aj
namespace Go.aj
variable [bx]
open Go.RowKit
def br (P:Program)(f:FuncId)(args:List ao)(r:ao):Prop:= ∀H,cm P f args H (fun h=>h<H.length) (fun dF bK=>dF=r∧bK=H)
theorem pH.closed {w:World}{S:Nat→Prop}{σ:Nat→Option bP}{args:List ao}{dH:Array Value}(h:pH w S σ args dH)(aG:c2.e9 args=true)(bC:Nat→Option bP):pH w S bC args dH:=
 ⟨h.1,fun i aa=>(h.2 i aa).closed (xb aG i aa) bC⟩
theorem lU.empty {w:World}{S:Nat→Prop}{σ:Nat→Option bP}{H:aY}(h:lU w S σ H):lU w S (fun _=>none) []:=
 have bY:= ‹bx›;⟨fun h o ai=>by simp at ai,fun h aS o o' b s C ct cM U=>by simp at U,h.small,fun _ _=>rfl⟩
theorem lU.after {w w':World}{S cb:Nat→Prop}{σ ZR:Nat→Option bP}{H b3:aY}{fix:Nat→Prop}{K:ao→aY→Prop}(h:lU w S σ H)(ad:lU w' cb ZR b3){ya:qf w S (fun _=>none) []}(an:xB (oD w S (fun _=>none) [] fix K ya) w' cb ZR b3):
 lU w' cb σ H∧ ∀(kB:ao→aY→Prop) (aD:qf w S σ H),xB (oD w S σ H (fun h=>h<H.length) kB aD) w' cb σ H:=by
 have e2: ∀b,¬rW (fun _=>none) [] b:=by rintro b ⟨h,o,s,C,U,_⟩;simp at U
 have pU: ∀b,b<w.heap.size→w'.heap[b]? =w.heap[b]? :=fun b ak=>an.block b ak (e2 b);have af: ∀{ZQ:Nat→Option bP} {x v},bz w S ZQ x v→bz w' cb ZQ x v:=fun af=>af.mono an.hV (fun b ak=>pU b (h.small b ak)) _ (fun _ _ h=>h);have adP: ∀b,b<w.heap.size→ ¬S b→ ¬cb b:=by
  intro b ak az hf;rcases an.fb b hf with U|U|U
  ·exact az U
  ·exact e2 b U
  ·simp only [oD] at U;omega
 refine ⟨⟨fun aS o ai=> ?_,h.hB,ad.small,h.ie⟩,fun kB aD=>⟨an.os,an.output,an.tape,an.size,fun b ak _=>pU b ak,an.hV,fun b ak=>(an.fb b ak).elim .inl (fun h=>h.elim (fun h=>absurd h (e2 b)) (fun h=> .inr (.inr h))),fun _ _=>rfl,fun _ h=>h,fun h o b s C U ab=> .inl ⟨h,o,s,C,U,ab⟩⟩⟩;rcases h.live aS o ai with aG|⟨b,C,cur,U,ab,ay,bc,bI,db,fh⟩
 ·exact .inl aG
 ·right;have bG:=ab.lt;refine ⟨b,C,cur,U,ab.mono (pU b bG) af,ay,bc,bI,adP b bG db,fun i j aa ae=> ?_⟩;obtain ⟨v,aE,aF,bO⟩:=fh i j aa ae;exact ⟨v,aE,af aF,bO⟩
mutual
def ao.kL (H:aY):ao→ao
 | .aC h i n=>match H[h]? with
  |some (some o)=> .ro o.c i n
  |_=> .any
 | .ptr h i j=>match H[h]? with
  |some (some o)=> .cK o.c i j
  |_=> .any
 | .fn f l=> .fn f (ao.qC H l)
 | .agg l=> .agg (ao.qC H l)
 | .ck l=> .ck (ao.qC H l)
 | .mp h=>match H[h]? with
  |some (some o)=>match o.c with
   | .mp ks vs=> .iC ks vs
   |_=> .any
  |_=> .any
 |v=>v
def ao.qC (H:aY):List ao→List ao
 |[]=>[]
 |v::r=>v.kL H::ao.qC H r
end
theorem w7 (H:aY)(l:List ao):(ao.qC H l).length=l.length:=by
 have bY:= ‹bx›;induction l with
 |nil=>rfl
 |cons v r a6=>simp [ao.qC,a6]
theorem JA (H:aY)(l:List ao)(i:Nat)(aa:i<l.length):(ao.qC H l).getD i .any=(l.getD i .any).kL H:=by
 have bY:= ‹bx›;induction l generalizing i with
 |nil=>simp at aa
 |cons v r a6=>cases i with
  |zero=>rfl
  |succ i=>simpa [ao.qC] using a6 i (by simpa using aa)
def e5:Cells→Prop
 | .mp ks vs=>c2.e9 ks=true∧c2.e9 vs=true
 |c=> ∀i j,i<c.len→j<c.aI→c2 (c.at i j)=true
theorem e5.row {c:Cells}(h:e5 c): ∀i j,i<c.len→j<c.aI→c2 (c.at i j)=true:=by have bY:= ‹bx›;cases c<;>first|exact h|exact fun i j aa=>absurd aa (gh _)
theorem e5.mp {c:Cells}(h:e5 c){ks vs:List ao}(av:c= .mp ks vs):c2.e9 ks=true∧c2.e9 vs=true:=by have bY:= ‹bx›;subst av;exact h
theorem UO {c:Cells}(h:c.simple=true):e5 c:=by have bY:= ‹bx›;cases c<;>first|exact (fun i j _ _=>rfl)|cases h
mutual
def nL (H:aY):ao→Prop
 | .aC h i n=> ∀o,H[h]? =some (some o)→i+n≤o.c.len
 | .ptr h i _=> ∀o,H[h]? =some (some o)→i<o.c.len
 | .fn _ l=>pA H l
 | .agg l=>pA H l
 | .ck l=>pA H l
 |_=>True
def pA (H:aY):List ao→Prop
 |[]=>True
 |v::r=>nL H v∧pA H r
end
theorem AH {H:aY}{l:List ao}(h:pA H l)(i:Nat)(aa:i<l.length):nL H (l.getD i .any):=by
 have bY:= ‹bx›;induction l generalizing i with
 |nil=>simp at aa
 |cons v r a6=>cases i with
  |zero=>exact h.1
  |succ i=>simpa using a6 h.2 i (by simpa using aa)
def A3 (w:World)(S:Nat→Prop)(σ:Nat→Option bP)(H:aY):Prop:=
 ∀h o,H[h]? =some (some o)→
  (σ h=some .l9∧o.c.len=0)∨
  ∃b C cur,σ h=some (.at b o.c.aI C)∧Lays w S σ o b cur C∧cur.size=C*o.c.aI∧C≤maxLen+1∧o.c.len≤C∧ ¬S b∧
   ∀i j,i<o.c.len→j<o.c.aI→ ∃v,cur[i*o.c.aI+j]? =some v∧bz w S σ (o.c.at i j) v∧v.oneCell'=true
theorem bz.freeze {w:World}{S:Nat→Prop}{σ:Nat→Option bP}{H:aY}(tz:A3 w S σ H)(fk: ∀(h:Nat) (o:bm),H[h]? =some (some o)→e5 o.c){cb:Nat→Prop}(dm: ∀b,S b→cb b)(zI: ∀h o b s C,H[h]? =some (some o)→σ h=some (.at b s C)→cb b){x:ao}{v:Value}(af:bz w S σ x v): ∀bC,nL H x→bz w cb bC (x.kL H) v:=by
 have kM: ∀{mR:Nat→Option bP} {x v},bz w S mR x v→bz w cb mR x v:=fun h=>h.mono dm (fun _ _=>rfl) _ (fun _ _ h=>h);obtain ⟨mR,o5⟩: ∃mR,mR=σ:=⟨σ,rfl⟩
 rw [←o5] at af;induction af with
 |int=>intros;constructor
 |bool=>intros;constructor
 |str=>intros;constructor
 |nil=>intros;constructor
 |ko=>intros;constructor
 |ro _ c i len b o cap val fs hlen av iy U a6=>intro bC _;exact .ro _ _ _ _ _ _ _ val (dm _ fs) hlen av (fun d j hd ae=>kM (iy d j hd ae)) U
 |aC DD h i len b s C cap bL hlen kh=>
  rw [o5] at bL;intro bC ei;simp only [ao.kL];cases aA:H[h]? with
  |none=>exact .any _ _
  |some ma=>cases ma with
   |none=>exact .any _ _
   |some o=>
    simp only;have BM:i+len≤o.c.len:=ei o aA;rcases tz h o aA with ⟨aG,_⟩|⟨b',cM,cur,fG,g1,g2,g3,g4,g5,g6⟩
    ·rw [bL] at aG;cases aG
    ·rw [bL] at fG;simp only [dG,bP.at.injEq] at fG;obtain ⟨rfl,rfl,rfl⟩:=fG;by_cases oq:o.c.aI=0
     ·exact .ro _ _ _ _ _ _ _ (fun _ _=>undef) (zI h o b _ C aA bL) hlen (fun d j hd ae=>by omega) (fun d j hd ae=>by omega) (fun d j hd ae=>by omega)
     obtain ⟨mk,g1,_,_⟩:=g1.cells oq;have hN: ∀d j,d<len→j<o.c.aI→ ∃u,cur[(i+d)*o.c.aI+j]? =some u∧bz w S σ (o.c.at (i+d) j) u∧u.oneCell'=true:=fun d j hd ae=>g6 (i+d) j J ae;refine .ro _ _ _ _ _ _ _ (fun d j=>(cur[(i+d)*o.c.aI+j]?).getD undef) (zI h o b _ C aA bL) hlen (fun d j hd ae=> ?_) (fun d j hd ae=> ?_) (fun d j hd ae=> ?_)
     ·obtain ⟨u,aE,_⟩:=hN d j hd ae;have e:i*o.c.aI+d*o.c.aI+j=(i+d)*o.c.aI+j:=by rw [eF]
      simp [World.cell?,g1,e,aE]
     ·obtain ⟨u,aE,aF,_⟩:=hN d j hd ae;simp only [aE,pR];exact kM (aF.closed ((fk h o aA).row _ _ J ae) _)
     ·obtain ⟨u,aE,_,bO⟩:=hN d j hd ae;simp only [aE,pR];exact bO
 |mp DD h b bL=>
  rw [o5] at bL;intro bC ei;simp only [ao.kL];cases aA:H[h]? with
  |none=>exact .any _ _
  |some ma=>cases ma with
   |none=>exact .any _ _
   |some o=>
    simp only;rcases tz h o aA with ⟨aG,_⟩|⟨b',cM,cur,fG,g1,g2,g3,g4,g5,g6⟩
    ·rw [bL] at aG;cases aG
    ·rw [bL] at fG;simp only [dG,bP.at.injEq] at fG;obtain ⟨rfl,cy,rfl⟩:=fG;cases g1 with
     |row mk _ _ eh=>omega
     |map ks vs es clock av _ ak aG au hd he=>
      simp only [av]
      ·have aW:=(fk h o aA).mp av;refine .iC _ _ _ b es clock (fun i=>(es[i]?).getD default) (zI h o b _ _ aA (by rw [bL])) ak aG au hd (fun i aa=> ?_) (fun i aa=> ?_) (fun i aa=> ?_)
       ·obtain ⟨e,aE,_⟩:=he i aa;simp [aE]
       ·obtain ⟨e,aE,aF,_⟩:=he i aa;simp only [aE,pR];exact kM (aF.closed (xb aW.1 i aa) _)
       ·obtain ⟨e,aE,_,bO⟩:=he i aa;simp only [aE,pR];exact kM (bO.closed (xb aW.2 i J) _)
 |iC _ ks vs b es clock e fs ak aG au hd he an af MV MX=>intro bC _;exact .iC _ _ _ b es clock e (dm _ fs) ak aG au hd he (fun i aa=>kM (an i aa)) (fun i aa=>kM (af i aa))
 |iD _ h bL=>
  intro bC ei;simp only [ao.kL];cases aA:H[h]? with
  |none=>exact .any _ _
  |some ma=>cases ma with
   |none=>exact .any _ _
   |some o=>exact .ko _ _ _ _ _
 |cK _ c i j b o val fs av iy U a6=>intro bC _;exact .cK _ _ _ _ _ _ val (dm _ fs) av (fun e he=>kM (iy e he)) U
 |ptr DD h i j b s C bL=>
  rw [o5] at bL;intro bC ei;simp only [ao.kL];cases aA:H[h]? with
  |none=>exact .any _ _
  |some ma=>cases ma with
   |none=>exact .any _ _
   |some o=>
    simp only;have BM:i<o.c.len:=ei o aA;rcases tz h o aA with ⟨aG,_⟩|⟨b',cM,cur,fG,g1,g2,g3,g4,g5,g6⟩
    ·rw [bL] at aG;cases aG
    ·rw [bL] at fG;simp only [dG,bP.at.injEq] at fG;obtain ⟨rfl,rfl,rfl⟩:=fG;by_cases oq:o.c.aI=0
     ·exact .cK _ _ _ _ _ _ (fun _=>undef) (zI h o b _ C aA bL) (fun e he=>by omega) (fun e he=>by omega) (fun e he=>by omega)
     obtain ⟨mk,g1,_,_⟩:=g1.cells oq;refine .cK _ _ _ _ _ _ (fun e=>(cur[i*o.c.aI+(j+e)]?).getD undef) (zI h o b _ C aA bL) (fun e he=> ?_) (fun e he=> ?_) (fun e he=> ?_)
     ·obtain ⟨u,aE,_⟩:=g6 i (j+e) BM he;have gE:i*o.c.aI+j+e=i*o.c.aI+(j+e):=J;simp [World.cell?,g1,gE,aE]
     ·obtain ⟨u,aE,aF,_⟩:=g6 i (j+e) BM he;simp only [aE,pR];exact kM (aF.closed ((fk h o aA).row _ _ BM he) _)
     ·obtain ⟨u,aE,_,bO⟩:=g6 i (j+e) BM he;simp only [aE,pR];exact bO
 |p0=>intros;constructor
 |fn _ f cap vs au af a6=>intro bC ei;exact .fn _ _ _ _ (by rw [w7];exact au) (fun i aa=>by rw [w7] at aa;rw [JA H cap i aa];exact a6 i aa o5 bC (AH ei i aa))
 |pZ=>intros;constructor
 |iface=>intros;constructor
 |ov=>intros;constructor
 |agg _ l vs au af U a6=>intro bC ei;exact .agg _ _ _ (by rw [w7];exact au) (fun i aa=>by rw [w7] at aa;rw [JA H l i aa];exact a6 i aa o5 bC (AH ei i aa)) (fun i aa=>U i (by rwa [w7] at aa))
 |ck _ l vs au af a6=>intro bC ei;exact .ck _ _ _ (by rw [w7];exact au) (fun i aa=>by rw [w7] at aa;rw [JA H l i aa];exact a6 i aa o5 bC (AH ei i aa))
 |any=>intros;constructor
theorem cm.value {P:Program}{f:FuncId}{args:List ao}{fix:Nat→Prop}{r:ao}{K:ao→aY→Prop}(av:cm P f args [] fix K)(kj: ∀h,¬fix h)(aG:c2.e9 args=true)(dE: ∀cU b3,K cU b3→cU.kL b3=r∧nL b3 cU∧ ∀(h:Nat) (o:bm),b3[h]? =some (some o)→e5 o.c):br P f args r:=by
 intro H;refine ⟨av.1,fun w σ S dH aD ad aR af=> ?_⟩;refine (av.2 w (fun _=>none) S dH (aD.less (fun _ h=>h) (fun _ h=>h.nil)) ad.empty (fun h aX=>absurd aX (kj h)) (af.closed aG _)).mono ?_;rintro e w' ⟨v,cU,bC,cb,b3,rfl,g1,g2,g3,g4⟩;obtain ⟨et,eS,gG⟩:=dE cU b3 g4;have e2: ∀b,¬rW (fun _=>none) [] b:=by rintro b ⟨h,o,s,C,U,_⟩;simp at U
 --the region takes the new objects' blocks in
 let fb:Nat→Prop:=fun b=>cb b∨ ∃h o s C,b3[h]? =some (some o)∧bC h=some (.at b s C)
 have bG: ∀b,(∃h o s C,b3[h]? =some (some o)∧bC h=some (.at b s C))→w.heap.size≤b∧b<w'.heap.size:=by
  rintro b ⟨h,o,s,C,U,ab⟩;refine ⟨?_,?_⟩
  ·rcases g3.own h o b s C U ab with ay|ay
   ·exact absurd ay (e2 b)
   ·exact ay
  ·rcases g1.live h o U with ⟨aG,_⟩|⟨b',cM,cur,fG,g,_⟩
   ·rw [ab] at aG;cases aG
   ·rw [ab] at fG;simp only [dG,bP.at.injEq] at fG;rw [fG.1];exact g.lt
 have BZ:lU w' fb (fun _=>none) []:=⟨fun h o ai=>by simp at ai,fun h aS o o' b s C ct cM U=>by simp at U,fun b ak=>by
  rcases ak with U|U
  ·exact g1.small b U
  ·exact (bG b U).2,fun _ _=>rfl⟩
 have l4:xB (oD w S (fun _=>none) [] (fun _=>False) K (aD.less (fun _ h=>h) (fun _ h=>h.nil))) w' fb (fun _=>none) []:=
  ⟨g3.os,g3.output,g3.tape,g3.size,g3.block,fun b ak=> .inl (g3.hV b ak),fun b ak=>by
   rcases ak with U|U
   ·exact g3.fb b U
   ·exact .inr (.inr (bG b U).1),fun _ h=>h.elim,fun _ h=>h.elim,fun h o b s C U=>by simp at U⟩
 obtain ⟨gy,a2⟩:=ad.after BZ l4;refine ⟨v,r,σ,fb,H,I,gy,?_,a2 _ _,I,I⟩;rw [←et];exact bz.freeze g1.live gG (fun _ h=> .inl h) (fun h o b s C U ab=> .inr ⟨h,o,s,C,U,ab⟩) g2 σ eS
theorem cm.sD {P:Program}{f:FuncId}{args:List ao}{fix:Nat→Prop}{r:ao}(av:cm P f args [] fix (fun dF _=>dF=r))(kj: ∀h,¬fix h)(aG:c2.e9 args=true)(ad:c2 r=true):br P f args r:=by intro H;refine ⟨av.1,fun w σ S dH aD kl aR af=> ?_⟩;refine (av.2 w (fun _=>none) S dH (aD.less (fun _ h=>h) (fun _ h=>h.nil)) kl.empty (fun h aX=>absurd aX (kj h)) (af.closed aG _)).mono ?_;rintro e w' ⟨v,cU,bC,cb,b3,rfl,g1,g2,g3,g4⟩;obtain ⟨gy,a2⟩:=kl.after g1 g3;subst g4;exact ⟨v,cU,σ,cb,H,I,gy,g2.closed ad σ,a2 _ _,I,I⟩
end Go.aj
namespace Go.aj
variable [bx]
open Go.RowKit
def A2 (P:Program)(f:FuncId)(args:List ao)(r:Nat→ao)(o:bm):Prop:= ∀H,cm P f args H (fun h=>h<H.length) (fun dF bK=>dF=r H.length∧bK=H++[some o])
mutual
def ao.l7 (H:aY)(id new:Nat):ao→ao
 | .aC h i n=>bif Nat.beq h id then .aC new i n else match H[h]? with
  |some (some o)=> .ro o.c i n
  |_=> .any
 | .ptr h i j=>bif Nat.beq h id then .ptr new i j else match H[h]? with
  |some (some o)=> .cK o.c i j
  |_=> .any
 | .fn f l=> .fn f (ao.keeps H id new l)
 | .agg l=> .agg (ao.keeps H id new l)
 | .ck l=> .ck (ao.keeps H id new l)
 | .mp h=>bif Nat.beq h id then .mp new else (ao.mp h).kL H
 |v=>v
def ao.keeps (H:aY)(id new:Nat):List ao→List ao
 |[]=>[]
 |v::r=>v.l7 H id new::ao.keeps H id new r
end
theorem Ar (H:aY)(id new:Nat)(l:List ao):(ao.keeps H id new l).length=l.length:=by
 have bY:= ‹bx›;induction l with
 |nil=>rfl
 |cons v r a6=>simp [ao.keeps,a6]
theorem N7 (H:aY)(id new:Nat)(l:List ao)(i:Nat)(aa:i<l.length):(ao.keeps H id new l).getD i .any=(l.getD i .any).l7 H id new:=by
 have bY:= ‹bx›;induction l generalizing i with
 |nil=>simp at aa
 |cons v r a6=>cases i with
  |zero=>rfl
  |succ i=>simpa [ao.keeps] using a6 i (by simpa using aa)
theorem bz.l7 {w:World}{S:Nat→Prop}{σ:Nat→Option bP}{H:aY}{id new:Nat}(tz:A3 w S σ H)(fk: ∀(h:Nat) (o:bm),H[h]? =some (some o)→e5 o.c){cb:Nat→Prop}(dm: ∀b,S b→cb b)(zI: ∀h o b s C,h≠id→H[h]? =some (some o)→σ h=some (.at b s C)→cb b){x:ao}{v:Value}(af:bz w S σ x v): ∀bC,(∀B,σ id=some B→bC new=some B)→nL H x→bz w cb bC (x.l7 H id new) v:=by
 have kM: ∀{mR:Nat→Option bP} {x v},bz w S mR x v→bz w cb mR x v:=fun h=>h.mono dm (fun _ _=>rfl) _ (fun _ _ h=>h)
 --the others:as by freeze,over the memory without id
 have nI: ∀h,h≠id→(H.set id none)[h]? =H[h]? :=fun h ch=>lW (ra ch);have c7: ∀h o,(H.set id none)[h]? =some (some o)→h≠id∧H[h]? =some (some o):=by
  intro h o ai;by_cases he:h=id
  ·subst he;rw [DN] at ai;simp only [gg] at ai;split at ai<;>simp at ai
  ·exact ⟨he,by rwa [nI h he] at ai⟩
 have aeX:A3 w S σ (H.set id none):=fun h o ai=>tz h o (c7 h o ai).2;have kL: ∀{x v},bz w S σ x v→nL (H.set id none) x→ ∀bC,bz w cb bC (x.kL (H.set id none)) v:=fun af ei bC=>
  bz.freeze aeX (fun h o ai=>fk h o (c7 h o ai).2) dm (fun h o b s C U ab=>zI h o b s C (c7 h o U).1 (c7 h o U).2 ab) af bC ei
 obtain ⟨mR,o5⟩: ∃mR,mR=σ:=⟨σ,rfl⟩
 rw [←o5] at af;induction af with
 |int=>intros;constructor
 |bool=>intros;constructor
 |str=>intros;constructor
 |nil=>intros;constructor
 |ko=>intros;constructor
 |ro _ c i len b o cap val fs hlen av iy U a6=>intro bC _ _;exact .ro _ _ _ _ _ _ _ val (dm _ fs) hlen av (fun d j hd ae=>kM (iy d j hd ae)) U
 |aC DD h i len b s C cap bL hlen kh=>
  rw [o5] at bL;intro bC hid ei;simp only [ao.l7];by_cases he:h=id
  ·subst he;simp only [pP,lV];exact .aC _ _ _ _ _ _ _ _ (hid _ bL) hlen kh
  ·simp only [dz he,oN];have:=kL (bz.aC σ h i len b s C cap bL hlen kh) (by simp only [nL];rw [nI h he];exact ei) bC;simp only [ao.kL] at this;rw [nI h he] at this;exact this
 |iD DD h bL=>
  rw [o5] at bL;intro bC hid ei;simp only [ao.l7];by_cases he:h=id
  ·subst he;simp only [pP,lV];exact .iD _ _ (hid _ bL)
  ·simp only [dz he,oN];have:=kL (bz.iD σ h bL) (by simp only [nL];rw [nI h he];exact ei) bC;simp only [ao.kL] at this;rw [nI h he] at this;exact this
 |cK _ c i j b o val fs av iy U a6=>intro bC _ _;exact .cK _ _ _ _ _ _ val (dm _ fs) av (fun e he=>kM (iy e he)) U
 |ptr DD h i j b s C bL=>
  rw [o5] at bL;intro bC hid ei;simp only [ao.l7];by_cases he:h=id
  ·subst he;simp only [pP,lV];exact .ptr _ _ _ _ _ _ _ (hid _ bL)
  ·simp only [dz he,oN];have:=kL (bz.ptr σ h i j b s C bL) (by simp only [nL];rw [nI h he];exact ei) bC;simp only [ao.kL] at this;rw [nI h he] at this;exact this
 |p0=>intros;constructor
 |fn _ f cap vs au af a6=>intro bC hid ei;exact .fn _ _ _ _ (by rw [Ar];exact au) (fun i aa=>by rw [Ar] at aa;rw [N7 H id new cap i aa];exact a6 i aa o5 bC hid (AH ei i aa))
 |pZ=>intros;constructor
 |iface=>intros;constructor
 |ov=>intros;constructor
 |agg _ l vs au af U a6=>intro bC hid ei;exact .agg _ _ _ (by rw [Ar];exact au) (fun i aa=>by rw [Ar] at aa;rw [N7 H id new l i aa];exact a6 i aa o5 bC hid (AH ei i aa)) (fun i aa=>U i (by rwa [Ar] at aa))
 |mp DD h b bL=>
  rw [o5] at bL;intro bC hid ei;simp only [ao.l7];by_cases he:h=id
  ·subst he;simp only [pP,lV];exact .mp _ _ _ (hid _ bL)
  ·simp only [dz he,oN];have:=kL (bz.mp σ h b bL) trivial bC;simp only [ao.kL] at this⊢;rw [nI h he] at this;exact this
 |iC _ ks vs b es clock e fs ak aG au hd he an af MV MX=>intro bC _ _;exact .iC _ _ _ b es clock e (dm _ fs) ak aG au hd he (fun i aa=>kM (an i aa)) (fun i aa=>kM (af i aa))
 |ck _ l vs au af a6=>intro bC hid ei;exact .ck _ _ _ (by rw [Ar];exact au) (fun i aa=>by rw [Ar] at aa;rw [N7 H id new l i aa];exact a6 i aa o5 bC hid (AH ei i aa))
 |any=>intros;constructor
mutual
def flat:ao→Bool
 | .ro _ _ n=>Nat.beq n 0
 | .cK _ _ _=>false
 | .fn _ l=>sS l
 | .agg l=>sS l
 | .ck l=>sS l
 | .iC _ _=>false
 |_=>true
def sS:List ao→Bool
 |[]=>true
 |v::r=>flat v && sS r
end
theorem FC {l:List ao}(h:sS l=true)(i:Nat)(aa:i<l.length):flat (l.getD i .any)=true:=by
 have bY:= ‹bx›;induction l generalizing i with
 |nil=>simp at aa
 |cons v r a6=>
  simp only [sS,er] at h;cases i with
  |zero=>simpa using h.1
  |succ i=>simpa using a6 h.2 i (by simpa using aa)
theorem bz.flat {w:World}{S:Nat→Prop}{σ:Nat→Option bP}{x:ao}{v:Value}(h:bz w S σ x v):flat x=true→ ∀cb,bz w cb σ x v:=by
 induction h with
 |int=>intros;constructor
 |bool=>intros;constructor
 |str=>intros;constructor
 |nil=>intros;constructor
 |ko=>intros;constructor
 |ro σ c i len b o cap val fs hlen av af U a6=>
  intro aR cb;have:=pO aR;subst this;exact .ko _ _ _ _ _
 |aC σ h i len b s C cap bL hlen kh=>intro _ cb;exact .aC _ _ _ _ _ _ _ _ bL hlen kh
 |iD σ h bL=>intro _ cb;exact .iD _ _ bL
 |cK=>intro h;cases h
 |ptr σ h i j b s C bL=>intro _ cb;exact .ptr _ _ _ _ _ _ _ bL
 |p0=>intros;constructor
 |fn σ f cap vs au af a6=>intro aG cb;exact .fn _ _ _ _ au (fun i aa=>a6 i aa (FC aG i aa) _)
 |pZ=>intros;constructor
 |iface=>intros;constructor
 |ov=>intros;constructor
 |agg σ l vs au af U a6=>intro aG cb;exact .agg _ _ _ au (fun i aa=>a6 i aa (FC aG i aa) _) U
 |ck σ l vs au af a6=>intro aG cb;exact .ck _ _ _ au (fun i aa=>a6 i aa (FC aG i aa) _)
 |mp σ h b bL=>intro _ cb;exact .mp _ _ _ bL
 |iC=>intro h;cases h
 |any=>intros;constructor
def Hc:Cells→Prop
 | .mp ks vs=>sS ks=true∧sS vs=true
 |c=> ∀i j,i<c.len→j<c.aI→flat (c.at i j)=true
theorem Hc.row {c:Cells}(h:Hc c): ∀i j,i<c.len→j<c.aI→flat (c.at i j)=true:=by have bY:= ‹bx›;cases c<;>first|exact h|exact fun i j aa=>absurd aa (gh _)
theorem acM {c:Cells}(h:Hc c){ks vs:List ao}(av:c= .mp ks vs):sS ks=true∧sS vs=true:=by have bY:= ‹bx›;subst av;exact h
def w0 (jB H:aY):Prop:= ∀(h:Nat) (o:bm),jB[h]? =some (some o)→H[h]? =some (some o)
def QJ (σ:Nat→Option bP)(jB:aY)(b:Nat):Prop:= ∃h o s C,jB[h]? =some (some o)∧σ h=some (.at b s C)
theorem cm.over {P:Program}{f:FuncId}{args si:List ao}{fix:Nat→Prop}{K kB:ao→aY→Prop}{H jB:aY}(av:cm P f args [] fix K)(kj: ∀h,¬fix h)(je:w0 jB H)(afT: ∀(h:Nat) (o:bm),jB[h]? =some (some o)→e5 o.c)(ED:ao.qC jB si=args)(ei:pA jB si)(aG:c2.e9 args=true)(dE: ∀(cU:ao) (b3:aY),K cU b3→nL b3 cU∧(∀(h:Nat) (o:bm),b3[h]? =some (some o)→e5 o.c)∧ ∃(id:Nat) (o:bm),(b3.length≤id∧kB (cU.l7 b3 id H.length) H∧((∀(h:Nat) (o:bm),jB[h]? ≠some (some o))∨flat (cU.l7 b3 id H.length)=true))∨
  (b3[id]? =some (some o)∧kB (cU.l7 b3 id H.length) (H++[some o])∧((∀(h:Nat) (o:bm),jB[h]? ≠some (some o))∨(flat (cU.l7 b3 id H.length)=true∧Hc o.c)))):
 cm P f si H (fun h=>h<H.length) kB:=by
 refine ⟨av.1,fun w σ S dH aD ad aR af=> ?_⟩
 let K5:Nat→Prop:=fun b=>S b∨QJ σ jB b
 have adG: ∀b,QJ σ jB b→b<w.heap.size:=by
  rintro b ⟨h,o,s,C,U,ab⟩;rcases ad.live h o (je h o U) with ⟨aG,_⟩|⟨b',cM,cur,fG,g,_⟩
  ·rw [ab] at aG;cases aG
  ·rw [ab] at fG;simp only [dG,bP.at.injEq] at fG;rw [fG.1];exact g.lt
 have HW:lU w K5 (fun _=>none) []:=⟨fun h o ai=>by simp at ai,fun h aS o o' b s C ct cM U=>by simp at U,fun b ak=>ak.elim (ad.small b) (adG b),fun _ _=>rfl⟩
 have adF:A3 w S σ jB:=fun h o ai=>ad.live h o (je h o ai);have nd:pH w K5 (fun _=>none) args dH:=by subst ED;refine ⟨by rw [af.1,w7],fun i aa=> ?_⟩;rw [w7] at aa;rw [JA jB si i aa];exact bz.freeze adF afT (fun _ h=> .inl h) (fun h o b s C U ab=> .inr ⟨h,o,s,C,U,ab⟩) (af.2 i aa) _ (AH ei i aa)
 refine (av.2 w (fun _=>none) K5 dH (aD.less (fun _ h=> .inl h) (fun _ h=>h.nil)) HW (fun h aX=>absurd aX (kj h)) nd).mono ?_;rintro e w' ⟨v,cU,bC,cb,b3,rfl,g1,g2,g3,g4⟩;obtain ⟨et,eS,id,o,gG⟩:=dE cU b3 g4;have e2: ∀b,¬rW (fun _=>none) [] b:=by rintro b ⟨h,o,s,C,U,_⟩;simp at U
 have pU: ∀b,b<w.heap.size→w'.heap[b]? =w.heap[b]? :=fun b ak=>g3.block b ak (e2 b);have nH: ∀h o b s C,b3[h]? =some (some o)→bC h=some (.at b s C)→w.heap.size≤b∧b<w'.heap.size:=by
  intro h o b s C U ab;refine ⟨?_,?_⟩
  ·rcases g3.own h o b s C U ab with ay|ay
   ·exact absurd ay (e2 b)
   ·exact ay
  ·rcases g1.live h o U with ⟨aG,_⟩|⟨b',cM,cur,fG,g,_⟩
   ·rw [ab] at aG;cases aG
   ·rw [ab] at fG;simp only [dG,bP.at.injEq] at fG;rw [fG.1];exact g.lt
 let K2:Nat→Prop:=fun b=> ∃h o s C,h≠id∧b3[h]? =some (some o)∧bC h=some (.at b s C)
 let fb:Nat→Prop:=fun b=>S b∨(w.heap.size≤b∧(cb b∨K2 b))
 have mz:(∀(h:Nat) (o:bm),jB[h]? ≠some (some o))→ ∀b,cb b∨K2 b→fb b:=by
  intro j0 b ak;rcases ak with ak|ak
  ·rcases g3.fb b ak with U|U|U
   ·rcases U with U|⟨h,o,s,C,U,_⟩
    ·exact .inl U
    ·exact absurd U (j0 h o)
   ·exact absurd U (e2 b)
   ·exact .inr ⟨U,.inl ak⟩
  ·obtain ⟨h,o,s,C,U,ab,ay⟩:=ak;exact .inr ⟨(nH h o b s C ab ay).1,.inr ⟨h,o,s,C,U,ab,ay⟩⟩
 have adO: ∀b,b<w.heap.size→fb b→S b:=by
  intro b ak az;rcases az with U|⟨U,_⟩
  ·exact U
  ·omega
 have RY: ∀b,fb b→b<w'.heap.size:=by
  intro b az;rcases az with U|⟨_,U|⟨h,o,s,C,_,ab,ay⟩⟩
  ·have:=ad.small b U;have:=g3.size;simp only [oD] at this;omega
  ·exact g1.small b U
  ·exact (nH h o b s C ab ay).2
 --the old objects
 have hold: ∀ur:Nat→Option bP,(∀h B,σ h=some B→ur h=some B)→A3 w' fb ur H:=by
  intro ur yh h o ai;rcases ad.live h o ai with ⟨aG,jH⟩|⟨b,C,cur,U,ab,ay,bc,bI,db,fh⟩
  ·exact .inl ⟨yh _ _ aG,jH⟩
  ·right;have bG:=ab.lt;refine ⟨b,C,cur,yh _ _ U,ab.mono (pU b bG) (fun h=>h.mono (fun _ h=> .inl h) (fun b ak=>pU b (ad.small b ak)) _ yh),ay,bc,bI,fun az=>db (adO b bG az),fun i j aa ae=> ?_⟩;obtain ⟨v,aE,aF,bO⟩:=fh i j aa ae;exact ⟨v,aE,aF.mono (fun _ h=> .inl h) (fun b ak=>pU b (ad.small b ak)) _ yh,bO⟩
 have HX: ∀ur:Nat→Option bP,(∀B,bC id=some B→ur H.length=some B)→bz w' (fun b=>cb b∨K2 b) ur (cU.l7 b3 id H.length) v:=fun ur ab=>
  bz.l7 g1.live eS (fun _ h=> .inl h) (fun h o b s C ch U ay=> .inr ⟨h,o,s,C,ch,U,ay⟩) g2 ur ab et
 rcases gG with ⟨gG,rE,tF⟩|⟨gG,rE,tF⟩
 ·refine ⟨v,_,σ,fb,H,I,⟨hold σ (fun _ _ h=>h),ad.hB,RY,ad.ie⟩,?_,⟨g3.os,g3.output,g3.tape,g3.size,fun b ak _=>pU b ak,fun b ak=> .inl ak,fun b ak=>ak.elim .inl (fun h=> .inr (.inr h.1)),fun _ _=>rfl,fun _ h=>h,fun h o b s C U ab=> .inl ⟨h,o,s,C,U,ab⟩⟩,rE⟩;have U:=HX σ (fun B cf=>by rw [g1.ie id gG] at cf;cases cf);rcases tF with j0|hD
  ·exact U.mono (mz j0) (fun _ _=>rfl) _ (fun _ _ h=>h)
  ·exact U.flat hD _
 ·have Su:=g1.live id o gG;obtain ⟨B,cf⟩: ∃B,bC id=some B:=by
   rcases Su with ⟨h,_⟩|⟨b,C,cur,h,_⟩
   ·exact ⟨_,h⟩
   ·exact ⟨_,h⟩
  have oj: ∀h zd,σ h=some zd→cZ σ H.length B h=some zd:=by
   intro h zd uJ;unfold cZ;split
   ·rename_i he;rw [he,ad.ie _ (bN _)] at uJ;cases uJ
   ·exact uJ
  have c7: ∀aS o',(H++[some o])[aS]? =some (some o')→(aS=H.length∧o'=o)∨(aS<H.length∧H[aS]? =some (some o')):=by
   intro aS o' ai;by_cases he:aS<H.length
   ·rw [ic he] at ai;exact .inr ⟨he,ai⟩
   ·by_cases ki:aS=H.length
    ·subst ki;simp at ai;exact .inl ⟨rfl,ai.symm⟩
    ·have:(H++[some o]).length≤aS:=by simp;omega
     rw [kD this] at ai;cases ai
  have HM: ∀h o' b s cM,h<H.length→H[h]? =some (some o')→σ h=some (.at b s cM)→b<w.heap.size:=by
   intro h o' b s cM _ ai ak;rcases ad.live h o' ai with ⟨aG,_⟩|⟨b',cM,cur,fG,g,_⟩
   ·rw [ak] at aG;cases aG
   ·rw [ak] at fG;simp only [dG,bP.at.injEq] at fG;rw [fG.1];exact g.lt
  have o4: ∀h,h<H.length→cZ σ H.length B h=σ h:=fun h au=>by simp [cZ,pQ au]
  refine ⟨v,_,cZ σ H.length B,fb,H++[some o],I,⟨?_,?_,RY,fun h au=> ?_⟩,?_,⟨g3.os,g3.output,g3.tape,g3.size,fun b ak _=>pU b ak,fun b ak=> .inl ak,fun b ak=>ak.elim .inl (fun h=> .inr (.inr h.1)),fun h au=>o4 h au,fun h au=>by have lh:h<H.length:=au;simp;omega,fun h o' b s C U ab=> ?_⟩,rE⟩
  ·intro aS o' ai;rcases c7 aS o' ai with ⟨rfl,rfl⟩|⟨bG,cN⟩
   ·rcases Su with ⟨aG,jH⟩|⟨b,C,cur,U,ab,ay,bc,bI,db,fh⟩
    ·left;rw [cf] at aG;exact ⟨by simp [cZ,aG],jH⟩
    ·right;have tx:=nH id o' b _ C gG U;rw [cf] at U;have hC: ∀{x v},bz w' cb bC x v→c2 x=true→((∀(h:Nat) (o:bm),jB[h]? ≠some (some o))∨flat x=true)→bz w' fb (cZ σ H.length B) x v:=fun aF uT an=>by
      have hM:=aF.closed uT (cZ σ H.length B);rcases an with j0|hD
      ·exact hM.mono (fun b ak=>mz j0 b (.inl ak)) (fun _ _=>rfl) _ (fun _ _ h=>h)
      ·exact hM.flat hD _
     have wA:Lays w' fb (cZ σ H.length B) o' b cur C:=by
      cases ab with
      |row mk h hm eh=>exact .row mk h hm eh
      |map ks vs es clock av eh h aG au hd he=>
       have BZ:=(eS id o' gG).mp av;have Sn:((∀(h:Nat) (o:bm),jB[h]? ≠some (some o))∨(sS ks=true∧sS vs=true)):=by
        rcases tF with h|h
        ·exact .inl h
        ·exact .inr (acM h.2 av)
       refine .map ks vs es clock av eh h aG au hd (fun i aa=> ?_);obtain ⟨e,aE,aF,bO⟩:=he i aa;exact ⟨e,aE,hC aF (xb BZ.1 i aa) (Sn.imp (fun h=>h) (fun h=>FC h.1 i aa)),hC bO (xb BZ.2 i J) (Sn.imp (fun h=>h) (fun h=>FC h.2 i J))⟩
     refine ⟨b,C,cur,by simp [cZ,U],wA,ay,bc,bI,?_,fun i j aa ae=> ?_⟩
     ·rintro (az|⟨_,az|⟨al,ail,akI,ZS,ch,agw,Af⟩⟩)
      ·have:=ad.small b az;omega
      ·exact db az
      ·exact ch (g1.hB al id ail o' b akI ZS _ C agw gG Af (by rw [cf];exact U))
     ·obtain ⟨u,aE,aF,bO⟩:=fh i j aa ae;refine ⟨u,aE,?_,bO⟩;have hM:=aF.closed ((eS id o' gG).row i j aa ae) (cZ σ H.length B);rcases tF with j0|hD
      ·exact hM.mono (fun b ak=>mz j0 b (.inl ak)) (fun _ _=>rfl) _ (fun _ _ h=>h)
      ·exact hM.flat (hD.2.row i j aa ae) _
   ·exact hold _ oj aS o' cN
  ·intro U ab o1 o2 b s1 gL s2 gx bQ bX aE aF;rcases c7 U o1 bQ with ⟨rfl,rfl⟩|⟨fH,Cf⟩<;>rcases c7 ab o2 bX with ⟨rfl,rfl⟩|⟨fu,Cg⟩
   ·rfl
   ·simp only [cZ,gg] at aE;rw [o4 ab fu] at aF;have:=HM ab o2 b s2 gx fu Cg aF;have:=(nH id o1 b s1 gL gG (by rw [cf];exact aE)).1;omega
   ·simp only [cZ,gg] at aF;rw [o4 U fH] at aE;have:=HM U o1 b s1 gL fH Cf aE;have:=(nH id o2 b s2 gx gG (by rw [cf];exact aF)).1;omega
   ·rw [o4 U fH] at aE;rw [o4 ab fu] at aF;exact ad.hB U ab o1 o2 b s1 gL s2 gx Cf Cg aE aF
  ·simp only [di,gu,k6] at au;have: ¬h=H.length:=J;simp only [cZ,this,hA];exact ad.ie h J
  ·have U:=HX (cZ σ H.length B) (fun zd uJ=>by rw [cf] at uJ;simp only [dG] at uJ;simp [cZ,uJ]);rcases tF with j0|hD
   ·exact U.mono (mz j0) (fun _ _=>rfl) _ (fun _ _ h=>h)
   ·exact U.flat hD.1 _
  ·rcases c7 h o' U with ⟨rfl,rfl⟩|⟨bG,cN⟩
   ·simp only [cZ,gg] at ab;exact .inr (nH id o' b s C gG (by rw [cf];exact ab)).1
   ·rw [o4 h bG] at ab;exact .inl ⟨h,o',s,C,cN,ab⟩
theorem aoR (H:aY):w0 H H:=have bY:= ‹bx›;fun _ _ h=>h
theorem akB (H:aY):w0 [] H:=have bY:= ‹bx›;fun h o aX=>by simp at aX
theorem br.M5 {P:Program}{f:FuncId}{args si:List ao}{r:ao}{H:aY}(av:br P f args r)(fk: ∀(h:Nat) (o:bm),H[h]? =some (some o)→e5 o.c)(ED:ao.qC H si=args)(ei:pA H si)(aG:c2.e9 args=true)(ad:c2 r=true)(hD:flat r=true):
 cm P f si H (fun h=>h<H.length) (fun dF bK=>dF=r∧bK=H):=by refine cm.over (av []) (fun h aX=>by simp at aX) (aoR H) fk ED ei aG ?_;rintro cU b3 ⟨rfl,rfl⟩;have an:cU.l7 [] 0 H.length=cU:=M0 ad;refine ⟨MY ad,fun h o ai=>by simp at ai,0,⟨0,.ints .i64 []⟩,.inl ⟨bN _,⟨an,I⟩,.inr (by rw [an];exact hD)⟩⟩
where
 M0 {id new:Nat} {ze:aY}: ∀{v:ao},c2 v=true→v.l7 ze id new=v
  | .int _ _,_=>rfl
  | .bool _,_=>rfl
  | .str _,_=>rfl
  | .nil,_=>rfl
  | .ro _ _ _,_=>rfl
  | .aC _ _ _,af=>by cases af
  | .cK _ _ _,_=>rfl
  | .ptr _ _ _,af=>by cases af
  | .p0,_=>rfl
  | .fn f l,af=>by simp only [ao.l7];rw [ks l af]
  | .pZ,_=>rfl
  | .iface,_=>rfl
  | .ov,_=>rfl
  | .agg l,af=>by simp only [ao.l7];rw [ks l af]
  | .ck l,af=>by simp only [ao.l7];rw [ks l af]
  | .mp _,af=>by cases af
  | .iC _ _,_=>rfl
  | .any,_=>rfl
 ks {id new:Nat} {ze:aY}: ∀(l:List ao),c2.e9 l=true→ao.keeps ze id new l=l
  |[],_=>rfl
  |v::r,af=>by simp only [c2.e9,er] at af;simp only [ao.keeps];rw [M0 af.1,ks r af.2]
 MY {ze:aY}: ∀{v:ao},c2 v=true→nL ze v
  | .int _ _,_=>trivial
  | .bool _,_=>trivial
  | .str _,_=>trivial
  | .nil,_=>trivial
  | .ro _ _ _,_=>trivial
  | .aC _ _ _,af=>by cases af
  | .cK _ _ _,_=>trivial
  | .ptr _ _ _,af=>by cases af
  | .p0,_=>trivial
  | .fn _ l,af=>Ie l af
  | .pZ,_=>trivial
  | .iface,_=>trivial
  | .ov,_=>trivial
  | .agg l,af=>Ie l af
  | .ck l,af=>Ie l af
  | .mp _,af=>by cases af
  | .iC _ _,_=>trivial
  | .any,_=>trivial
 Ie {ze:aY}: ∀(l:List ao),c2.e9 l=true→pA ze l
  |[],_=>trivial
  |v::r,af=>by simp only [c2.e9,er] at af;exact ⟨MY af.1,Ie r af.2⟩
theorem cm.fresh {P:Program}{f:FuncId}{args:List ao}{fix:Nat→Prop}{r:Nat→ao}{o:bm}{K:ao→aY→Prop}(av:cm P f args [] fix K)(kj: ∀h,¬fix h)(aG:c2.e9 args=true)(aW: ∀H:aY,ao.qC [] args=args∧pA H args)(dE: ∀(cU:ao) (b3:aY),K cU b3→nL b3 cU∧(∀(h:Nat) (o:bm),b3[h]? =some (some o)→e5 o.c)∧ ∃id,b3[id]? =some (some o)∧ ∀n,cU.l7 b3 id n=r n):A2 P f args r o:=by intro H;refine cm.over av kj (akB H) (fun h o ai=>by simp at ai) (aW []).1 (aW []).2 aG ?_;intro cU b3 aM;obtain ⟨U,ab,id,ay,bc⟩:=dE cU b3 aM;exact ⟨U,ab,id,o,.inr ⟨ay,⟨bc _,I⟩,.inl (fun h o=>by simp)⟩⟩
end Go.aj
namespace Go.aj
variable [bx]
open Go.RowKit
section
variable {ind:Bool}{P:Program}{fn:Func}{c:Ctx}{fr:Fr}{H:aY}{k:List eO}
variable {d:Option Nat}{ty:TypeId}{pos:String}{after:Array Edge}{g:Option (Nat×Bool)}
theorem ib {x i:Operand}{t e:TypeId}{eb:Cells}{o len ix:Nat}{k:IntKind}{m:Int}(bu:P.underlying t=some (.slice e))(az:(P.info? e).map (·.size)=some eb.aI)(al:bH fr x=some (.ro eb o len))(aa:bH fr i=some (.int k m))(zU:o+m.toNat=ix)(ak:0≤m∧m<len):
 bZ ind P fn c fr H ⟨d,.indexAddr t x i,ty,pos,after,g⟩ (.cK eb ix 0):=zU▸anX bu az al aa ak
theorem gr {x i:Operand}{t e:TypeId}{h o len ix:Nat}{bg:bm}{k:IntKind}{m:Int}(bu:P.underlying t=some (.slice e))(al:bH fr x=some (.aC h o len))(aX:H[h]? =some (some bg))(az:(P.info? e).map (·.size)=some bg.c.aI)(aa:bH fr i=some (.int k m))(zU:o+m.toNat=ix)(ak:0≤m∧m<len):
 bZ ind P fn c fr H ⟨d,.indexAddr t x i,ty,pos,after,g⟩ (.ptr h ix 0):=zU▸anY bu al aX az aa ak
theorem vk {x:Operand}{t:TypeId}{u:TypeDesc}{eC:IntKind}{l:List Int}{i:Nat}(bu:P.underlying t=some u)(hu:jy u=false)(al:bH fr x=some (.cK (.ints eC l) i 0)):
 bZ false P fn c fr H ⟨d,.load t x,ty,pos,after,g⟩ (.int eC (l.getD i 0)):=JG bu hu al rfl rfl
theorem Of {x:Operand}{t:TypeId}{u:TypeDesc}{l:List (List UInt8)}{i:Nat}(bu:P.underlying t=some u)(hu:jy u=false)(al:bH fr x=some (.cK (.strs l) i 0)):
 bZ false P fn c fr H ⟨d,.load t x,ty,pos,after,g⟩ (.str (l.getD i [])):=JG bu hu al rfl rfl
theorem vf {x:Operand}{t:TypeId}{u:TypeDesc}{n s:Nat}{f:Nat→Nat→ao}{i j:Nat}(bu:P.underlying t=some u)(hu:jy u=false)(al:bH fr x=some (.cK (.fn n s f) i j))(ae:Nat.blt j s=true):
 bZ false P fn c fr H ⟨d,.load t x,ty,pos,after,g⟩ (f i j):=JG bu hu al ae rfl
theorem Fi {x:Operand}{t:TypeId}{u:TypeDesc}{h i:Nat}{o7:TypeId}{eC:IntKind}{l:List Int}(bu:P.underlying t=some u)(hu:jy u=false)(al:bH fr x=some (.ptr h i 0))(aX:H[h]? =some (some ⟨o7,.ints eC l⟩))(aa:i<l.length):
 bZ false P fn c fr H ⟨d,.load t x,ty,pos,after,g⟩ (.int eC (l.getD i 0)):=Jm bu hu al aX rfl rfl aa
theorem amW {x:Operand}{t:TypeId}{u:TypeDesc}{h i:Nat}{o7:TypeId}{l:List (List UInt8)}(bu:P.underlying t=some u)(hu:jy u=false)(al:bH fr x=some (.ptr h i 0))(aX:H[h]? =some (some ⟨o7,.strs l⟩))(aa:i<l.length):
 bZ false P fn c fr H ⟨d,.load t x,ty,pos,after,g⟩ (.str (l.getD i [])):=Jm bu hu al aX rfl rfl aa
theorem Cu {x:Operand}{t:TypeId}{u:TypeDesc}{h i j:Nat}{o7:TypeId}{n s:Nat}{f:Nat→Nat→ao}(bu:P.underlying t=some u)(hu:jy u=false)(al:bH fr x=some (.ptr h i j))(aX:H[h]? =some (some ⟨o7,.fn n s f⟩))(ae:Nat.blt j s=true)(aa:i<n):
 bZ false P fn c fr H ⟨d,.load t x,ty,pos,after,g⟩ (f i j):=Jm bu hu al aX ae rfl aa
theorem ia {x:Operand}{t:TypeId}{u:TypeDesc}{h j:Nat}{o7:TypeId}{l:List ao}{v:ao}(bu:P.underlying t=some u)(hu:jy u=false)(al:bH fr x=some (.ptr h 0 j))(aX:H[h]? =some (some ⟨o7,.box l⟩))(af:l[j]? =some v):
 bZ false P fn c fr H ⟨d,.load t x,ty,pos,after,g⟩ v:=by have ae:j<l.length:=(gZ.1 af).1;exact Jm bu hu al aX (rb ae) (by simp [Cells.at,List.getD,af]) (by simp [Cells.len])
theorem hg {q:Bool}{all:Array Oper}{d:Option Nat}{op:Op}{ty:TypeId}{pos:String}{after:Array Edge}{rest:List Oper}{j t:Nat}{p1:Bool}{p:Prop}{_:Decidable p}(aqe:qi all j=some t)(ak:look t fr=some (.bool (decide p)))(bu:p→aj P fn c (.ops q all (⟨d,op,ty,pos,after,some (j,p1)⟩::rest) k) ((t,.bool true)::fr) H)(aR: ¬p→aj P fn c (.ops q all (⟨d,op,ty,pos,after,some (j,p1)⟩::rest) k) ((t,.bool false)::fr) H):aj P fn c (.ops q all (⟨d,op,ty,pos,after,some (j,p1)⟩::rest) k) fr H:=
 amc t ak bu aR
theorem IK {op:BinOp}{t:TypeId}{x y:Operand}{a b:Option Addr}{m n l8 E3:Nat}{w:World}:(eqGuard op t x y (.slice a m n) (.slice b l8 E3)).run P w= .ok () w:=by have bY:= ‹bx›;unfold eqGuard;split<;>rfl
theorem O8 {all:Array Oper}{d:Nat}{x y:Operand}{t cC e:TypeId}{ty:TypeId}{pos:String}{after:Array Edge}{rest:List Oper}{eb:Cells}{i n:Nat}(bu:P.underlying t=some (.slice e))(al:bH fr x=some (.ro eb i n))(a1:bH fr y=some .nil)(h: ∀b:Bool,(b=true→n=0)→aj P fn c (.ops false all rest k) ((d,.bool b)::fr) H):aj P fn c (.ops false all (⟨some d,.binOp .eql t x y cC,ty,pos,after,none⟩::rest) k) fr H:=by
 intro hd w a σ S ad;obtain ⟨jr,jG⟩:=tW hd;have U:=ad.ek al;have ab:=ad.ek a1;generalize bB:a.eval x=z at U;generalize nf:a.eval y=QB at ab;have key: ∃b:Bool,(b=true→n=0)∧(execOp a.eval ⟨some d,.binOp .eql t x y cC,ty,pos,after,none⟩).run P w= .ok (.value (.bool b)) w:=by
  cases ab;cases U with
  |ko _ _ _ jD cap=>
   refine ⟨jD.isNone,fun _=>rfl,?_⟩;have ak:=Lib.run_eql_slice_nil (P:=P) w t e jD 0 cap 0 0 bu;simp only [execOp,bB,nf,Sem.run_bind,IK,Result.andThen_ok,ak];rfl
  |ro _ _ _ _ b o cap val dm hlen av af gF=>
   refine ⟨false,(fun h=>by cases h),?_⟩;have ak:=Lib.run_eql_slice_nil (P:=P) w t e (some ⟨b,o,none⟩) n cap 0 0 bu;simp only [execOp,bB,nf,Sem.run_bind,IK,Result.andThen_ok,ak];rfl
 obtain ⟨b,ak,eR⟩:=key;refine wpList_step (fun K dE=> ?_);simp only [Region.wanted,gg];unfold Oper.wp;rw [eR];exact dE _ _ (h b ak jG w _ σ S (ad.put (.bool _ _) (jr d I)))
theorem cd.ahO {w:World}{a:Act}{σ:Nat→Option bP}{S:Nat→Prop}{n:Nat}(ad:cd c w a σ S n fr H){o:bm}(ai:o.c.len=0){t:Nat}(au:look t fr=some .nil):cd c w a (cZ σ H.length .l9) S n ((t,.aC H.length 0 0)::fr) (H++[some o]):=by
 have oj: ∀h B,σ h=some B→cZ σ H.length .l9 h=some B:=by
  intro h B cf;unfold cZ;split
  ·rename_i he;rw [he,ad.ad.ie _ (bN _)] at cf;cases cf
  ·exact cf
 have af: ∀{x v},bz w S σ x v→bz w S (cZ σ H.length .l9) x v:=fun h=>h.mono (fun _ h=>h) (fun _ _=>rfl) _ oj;have c7: ∀aS o',(H++[some o])[aS]? =some (some o')→(aS=H.length∧o'=o)∨(aS<H.length∧H[aS]? =some (some o')):=by
  intro aS o' ai;by_cases he:aS<H.length
  ·rw [ic he] at ai;exact .inr ⟨he,ai⟩
  ·by_cases ki:aS=H.length
   ·subst ki;simp at ai;exact .inl ⟨rfl,ai.symm⟩
   ·have:(H++[some o]).length≤aS:=by simp;omega
    rw [kD this] at ai;cases ai
 have o4: ∀h,h<H.length→cZ σ H.length .l9 h=σ h:=fun h au=>by simp [cZ,pQ au]
 have hN:cZ σ H.length .l9 H.length=some .l9:=by simp [cZ]
 have ar:cd c w a (cZ σ H.length .l9) S n fr (H++[some o]):=by
  refine ⟨⟨?_,?_,ad.ad.small,fun h au=> ?_⟩,⟨ad.bk.os,ad.bk.output,ad.bk.tape,ad.bk.size,ad.bk.block,ad.bk.hV,ad.bk.fb,fun h aR=>by rw [o4 h (ad.bk.jF h aR)];exact ad.bk.fixed h aR,fun h aR=>by have:=ad.bk.jF h aR;simp;omega,?_⟩,ad.defers,ad.size,fun t v au=>⟨(ad.fl t v au).1,af (ad.fl t v au).2⟩⟩
  ·intro aS o' cN;rcases c7 aS o' cN with ⟨rfl,rfl⟩|⟨bG,cN⟩
   ·exact .inl ⟨hN,ai⟩
   ·rcases ad.ad.live aS o' cN with ⟨aG,jH⟩|⟨b',cM,ja,g1,g2,g3,g4,g5,g6,g7⟩
    ·exact .inl ⟨oj _ _ aG,jH⟩
    ·right;refine ⟨b',cM,ja,oj _ _ g1,g2.mono I af,g3,g4,g5,g6,fun i j aa ae=> ?_⟩;obtain ⟨v,aE,aF,bO⟩:=g7 i j aa ae;exact ⟨v,aE,af aF,bO⟩
  ·intro U ab o1 o2 b s1 gL s2 gx bQ bX aE aF;rcases c7 U o1 bQ with ⟨rfl,rfl⟩|⟨fH,Cf⟩
   ·rw [hN] at aE;cases aE
   ·rcases c7 ab o2 bX with ⟨rfl,rfl⟩|⟨fu,Cg⟩
    ·rw [hN] at aF;cases aF
    ·rw [o4 U fH] at aE;rw [o4 ab fu] at aF;exact ad.ad.hB U ab o1 o2 b s1 gL s2 gx Cf Cg aE aF
  ·simp only [di,gu,k6] at au;have: ¬h=H.length:=J;simp only [cZ,this,hA];exact ad.ad.ie h J
  ·intro aS o' b s C ai ak;rcases c7 aS o' ai with ⟨rfl,rfl⟩|⟨bG,cN⟩
   ·rw [hN] at ak;cases ak
   ·rw [o4 aS bG] at ak;exact ad.bk.own aS o' b s C cN ak
 refine ⟨ar.ad,ar.bk,ar.defers,ar.size,fun u y a1=> ?_⟩;simp only [look] at a1;by_cases he:u=t
 ·subst he;simp only [pP,lV,dG] at a1;subst a1;obtain ⟨U,ab⟩:=ad.fl u _ au;refine ⟨U,?_⟩;generalize a.tmps.getD u undef=z at ab;cases ab;exact .iD _ _ hN
 ·simp only [dz he,oN] at a1;exact ar.fl u y a1
theorem lK {x:Code}(t:Nat)(o:bm)(au:look t fr=some .nil)(ai:o.c.len=0)(h:aj P fn c (.code x k) ((t,.aC H.length 0 0)::fr) (H++[some o])):aj P fn c (.code x k) fr H:=
 fun w a _ S ad=>h w a _ S (ad.ahO ai au)
def oI (abE:Nat):Option ao→Option Int
 |none=>some abE
 |some (.int _ n)=>some n
 |some _=>none
def oe (fr:Fr):Option Operand→Option (Option ao)
 |none=>some none
 |some x=>match bH fr x with
  |some v=>some (some v)
  |none=>none
theorem IS {w:World}{x:Value}{k:IntKind}{m:Int}{y:Nat}{code:BoundsCode}(al:x= .int k m)(ak:0≤m∧m≤y):(Instr.sliceBound x y code).run P w= .ok m.toNat w:=by have bY:= ‹bx›;subst al;simp [Instr.sliceBound,asIntOf,ak]
theorem Cr {a:Act}{dO w:World}{σ:Nat→Option bP}{S:Nat→Prop}{n:Nat}(ad:cd c dO a σ S n fr H){js aa:Option Operand}{ou aQ:Option ao}{len cap:Nat}{l h:Int}{B7:Bool}(U:oe fr js=some ou)(ab:oe fr aa=some aQ)(ay:oI 0 ou=some l)(bc:oI len aQ=some h)(ak:0≤l∧l≤h∧h≤cap):
 (Instr.sliceBounds B7 len cap (js.map a.eval) (aa.map a.eval) none).run P w= .ok (l.toNat,h.toNat,cap) w:=by
 have aE: ∀(x:Operand),js=some x→ ∃k,a.eval x= .int k l:=by
  rintro x rfl;simp only [oe] at U;cases al:bH fr x with
  |none=>simp [al] at U
  |some v=>
   simp only [al,dG] at U;subst U;cases v<;>simp [oI] at ay;subst ay;exact ⟨_,ad.fq al⟩
 have aF: ∀(x:Operand),aa=some x→ ∃k,a.eval x= .int k h:=by
  rintro x rfl;simp only [oe] at ab;cases al:bH fr x with
  |none=>simp [al] at ab
  |some v=>
   simp only [al,dG] at ab;subst ab;cases v<;>simp [oI] at bc;subst bc;exact ⟨_,ad.fq al⟩
 have aX:((h.toNat:Nat):Int)=h:=J;cases js with
 |none=>
  simp only [oe,dG] at U;subst U;simp only [oI,dG] at ay;cases aa with
  |none=>
   simp only [oe,dG] at ab;subst ab;simp only [oI,dG] at bc;subst ay bc;simp [Instr.sliceBounds]
  |some x=>
   obtain ⟨k,al⟩:=aF x rfl;subst ay;simp only [Instr.sliceBounds,s8,Option.map_none,Sem.run_bind,Sem.run_pure,Result.andThen_ok,IS (P:=P) al ⟨J,ak.2.2⟩];rfl
 |some y=>
  obtain ⟨c1,a1⟩:=aE y rfl;cases aa with
  |none=>
   simp only [oe,dG] at ab;subst ab;simp only [oI,dG] at bc;subst bc;simp only [Instr.sliceBounds,s8,Option.map_none,Sem.run_bind,Sem.run_pure,Result.andThen_ok,IS (P:=P) a1 ⟨ak.1,ak.2.1⟩];simp
  |some x=>
   obtain ⟨k,al⟩:=aF x rfl;simp only [Instr.sliceBounds,s8,Sem.run_bind,Sem.run_pure,Result.andThen_ok,IS (P:=P) al ⟨J,ak.2.2⟩];simp only [IS (P:=P) (w:=w) a1 (y:=h.toNat) ⟨ak.1,J⟩,Result.andThen_ok]
theorem Og {x:Operand}{t e:TypeId}{js aa:Option Operand}{ou aQ:Option ao}{eb:Cells}{i n:Nat}{l h:Int}(bu:P.underlying t=some (.slice e))(az:(P.info? e).map (·.size)=some eb.aI)(al:bH fr x=some (.ro eb i n))(U:oe fr js=some ou)(ab:oe fr aa=some aQ)(ay:oI 0 ou=some l)(bc:oI n aQ=some h)(ak:0≤l∧l≤h∧h≤n):
 bZ ind P fn c fr H ⟨d,.slice t x js aa none,ty,pos,after,g⟩ (.ro eb (i+l.toNat) (h-l).toNat):=by
 intro w a σ S ad;have yf:=ad.ek al;generalize bB:a.eval x=z at yf;have je:h.toNat-l.toNat=(h-l).toNat:=J;cases yf with
 |ko _ _ _ jD cap=>
  have aG:h=0:=J;have au:l=0:=J;subst aG au;refine ⟨.slice (if cap=0 then jD else jD.map (·.add 0)) 0 cap,.ko _ _ _ _ _,fun w' _=> ?_⟩;have oh:=Cr (P:=P) (w:=w') (B7:=true) (cap:=cap) ad U ab ay bc ⟨J,J,J⟩;cases aA:P.info? e with
  |none=>simp [aA] at az
  |some inf=>
   simp [execOp,bB,Instr.sliceAt,Instr.slice,run_underlying bu,oh,sizeOf,typeInfo,aA]
 |ro _ _ _ _ b o cap val dm hlen av af gF=>
  have l2: ∀w',(execOp a.eval ⟨d,.slice t x js aa none,ty,pos,after,g⟩).run P w'= .ok (.value (.slice (if cap=l.toNat then some ⟨b,o,none⟩ else some ⟨b,o+l.toNat*eb.aI,none⟩) (h-l).toNat (cap-l.toNat))) w':=by
   intro w';have oh:=Cr (P:=P) (w:=w') (B7:=true) (cap:=cap) ad U ab ay bc ⟨J,J,J⟩;cases aA:P.info? e with
   |none=>simp [aA] at az
   |some inf=>
    have cy:inf.size=eb.aI:=by simpa [aA] using az
    simp [execOp,bB,Instr.sliceAt,Instr.slice,run_underlying bu,oh,sizeOf,typeInfo,aA,je,cy,Addr.add_lit]
  refine ⟨_,?_,fun w' _=>l2 w'⟩;by_cases aM:(h-l).toNat=0
  ·rw [aM];exact .ko _ _ _ _ _
  ·have ch: ¬cap=l.toNat:=J;rw [aw ch];refine .ro _ _ _ _ _ _ _ (fun d j=>val (l.toNat+d) j) dm J (fun d j hd ae=> ?_) (fun d j hd ae=> ?_) (fun d j hd ae=> ?_)
   ·have:=av (l.toNat+d) j J ae;rw [eF,←jU] at this;exact this
   ·have:=af (l.toNat+d) j J ae;rw [←jU] at this;exact this
   ·exact gF (l.toNat+d) j J ae
theorem Oh {x:Operand}{t e:TypeId}{js aa:Option Operand}{ou aQ:Option ao}{aS i n:Nat}{bg:bm}{l h:Int}(bu:P.underlying t=some (.slice e))(al:bH fr x=some (.aC aS i n))(aX:H[aS]? =some (some bg))(az:(P.info? e).map (·.size)=some bg.c.aI)(U:oe fr js=some ou)(ab:oe fr aa=some aQ)(ay:oI 0 ou=some l)(bc:oI n aQ=some h)(ak:0≤l∧l<h∧h≤n):
 bZ ind P fn c fr H ⟨d,.slice t x js aa none,ty,pos,after,g⟩ (.aC aS (i+l.toNat) (h-l).toNat):=by
 intro w a σ S ad;have yf:=ad.ek al;generalize bB:a.eval x=z at yf;have je:h.toNat-l.toNat=(h-l).toNat:=J;cases yf with
 |iD=>omega
 |aC _ _ _ _ b s C cap bL hlen kh=>
  obtain ⟨hf,cur,g1,g2,g3,g4,g5,g6⟩:=ad.obj aX bL;subst hf;have ch: ¬cap=l.toNat:=J;refine ⟨.slice (some ⟨b,(i+l.toNat)*bg.c.aI,none⟩) (h-l).toNat (cap-l.toNat),.aC _ _ _ _ _ _ C _ bL J J,fun w' _=> ?_⟩;have oh:=Cr (P:=P) (w:=w') (B7:=true) (cap:=cap) ad U ab ay bc ⟨J,J,J⟩;cases aA:P.info? e with
  |none=>simp [aA] at az
  |some inf=>
   have cy:inf.size=bg.c.aI:=by simpa [aA] using az
   simp [execOp,bB,Instr.sliceAt,Instr.slice,run_underlying bu,oh,sizeOf,typeInfo,aA,je,cy,Addr.add_lit,ch,eF]
end
end Go.aj
namespace Go.aj
variable [bx]
open Go.RowKit
section
variable {ind:Bool}{P:Program}{fn:Func}{c:Ctx}{fr:Fr}{H:aY}{k:List eO}
theorem cd.dropLast {w:World}{a:Act}{σ:Nat→Option bP}{S:Nat→Prop}{n:Nat}{x:Option bm}(ad:cd c w a σ S n fr (H++[x]))(kj: ¬c.fix H.length):
 cd c w a (fun h=>if h=H.length then none else σ h) S n (oC H.length fr) (c6 H.length H):=by
 have ch: ∀h,h≠H.length→(fun h=>if h=H.length then none else σ h) h=σ h:=fun h he=>by simp [he]
 have sw: ∀{x v},bz w S σ x v→bz w S (fun h=>if h=H.length then none else σ h) (x.forget H.length) v:=fun af=>af.forget _ ch;have l2: ∀h o,(c6 H.length H)[h]? =some (some o)→ ∃dt,h<H.length∧(H++[x])[h]? =some (some dt)∧o=⟨dt.ty,dt.c.forget H.length⟩:=by
  intro h o ai;rw [I4] at ai;cases aA:H[h]? with
  |none=>simp [aA] at ai
  |some ma=>cases ma with
   |none=>simp [aA,jl] at ai
   |some dt=>
    simp [aA,jl] at ai;have bG:h<H.length:=(gZ.1 aA).1;exact ⟨dt,bG,by rw [ic bG];exact aA,ai.symm⟩
 refine ⟨⟨?_,?_,ad.ad.small,fun h au=> ?_⟩,⟨ad.bk.os,ad.bk.output,ad.bk.tape,ad.bk.size,ad.bk.block,ad.bk.hV,ad.bk.fb,fun h aR=> ?_,fun h aR=> ?_,?_⟩,ad.defers,ad.size,fun t v au=> ?_⟩
 ·intro h o ai;obtain ⟨dt,bG,aM,rfl⟩:=l2 h o ai;rcases ad.ad.live h dt aM with ⟨aG,jH⟩|⟨b,C,cur,g1,g2,g3,g4,g5,g6,g7⟩
  ·exact .inl ⟨by rw [aw J];exact aG,by simpa [Cells.zG] using jH⟩
  ·right;simp only [Cells.zG,Cells.He];refine ⟨b,C,cur,by rw [aw J];exact g1,g2.forget I sw,g3,g4,g5,g6,fun i j aa ae=> ?_⟩;obtain ⟨v,aE,aF,bO⟩:=g7 i j aa ae;exact ⟨v,aE,by rw [Cells.Hd _ dt.c i j ae];exact sw aF,bO⟩
 ·intro U ab o1 o2 b s1 gL s2 gx bQ bX aE aF;obtain ⟨c4,fH,adn,_⟩:=l2 U o1 bQ;obtain ⟨fv,fu,ado,_⟩:=l2 ab o2 bX;rw [aw J] at aE aF;exact ad.ad.hB U ab _ _ b s1 gL s2 gx adn ado aE aF
 ·rw [vg] at au;by_cases he:h=H.length
  ·simp [he]
  ·simp only [he,hA];exact ad.ad.ie h (by simp;omega)
 ·have ab: ¬h=H.length:=fun e=>kj (e▸aR);rw [aw ab];exact ad.bk.fixed h aR
 ·have U:=ad.bk.jF h aR;have ab:h≠H.length:=fun e=>kj (e▸aR);rw [vg];simp at U;omega
 ·intro h o b s C ai ak;obtain ⟨dt,bG,aM,rfl⟩:=l2 h o ai;rw [aw J] at ak;exact ad.bk.own h dt b s C aM ak
 ·rw [Fp] at au;cases aA:look t fr with
  |none=>simp [aA] at au
  |some v0=>
   simp [aA] at au;subst au;exact ⟨(ad.fl t v0 aA).1,sw (ad.fl t v0 aA).2⟩
theorem AR {x:Code}{H1:aY}{y:Option bm}(lf:H=H1++[y])(kj: ¬c.fix H1.length)(h:aj P fn c (.code x k) (oC H1.length fr) (c6 H1.length H1)):aj P fn c (.code x k) fr H:=by subst lf;exact fun w a _ S ad=>h w a _ S (ad.dropLast kj)
end
end Go.aj
namespace Go.aj
theorem ub {α:Type}{l:List α}{k:Nat}(d:α)(h:k<l.length):l.getD k d=l[k]:=by simp [List.getD,h]
theorem mI {α:Type}{l:List α}{k:Nat}(d:α)(h:k<l.length):l.getD k d∈l:=by rw [ub d h];exact List.getElem_mem h
theorem rL {α:Type}(l:List α)(d:α)(k:Nat)(h:k<l.length):l.take (k+1)=l.take k++[l.getD k d]:=by rw [n9 h,ub d h]
theorem Cw {α:Type}(p:α→Bool)(l:List α)(d:α)(k:Nat)(h:k<l.length):(l.take (k+1)).any p=((l.take k).any p||p (l.getD k d)):=by rw [rL l d k h,List.any_append];simp only [List.any_cons,List.any_nil,Bool.or_false]
theorem tV {α:Type}(l:List α)(d:α)(k:Nat)(h:k<l.length):l.drop k=l.getD k d::l.drop (k+1):=by rw [ub d h];exact GO h
variable [bx]
open Go.RowKit
section
variable {P:Program}{fn:Func}{c:Ctx}{fr:Fr}{H:aY}{k:List eO}
variable {all:Array Oper}{d:Nat}{g:Operand}{args:List Operand}{hZ:Array TypeId}{ty:TypeId}{pos:String}{after:Array Edge}{rest:List Oper}{f:FuncId}
theorem aL {cD dZ gz:List ao}{r:ao}(c9:bH fr g=some (.fn f cD))(aW:lb fr args=some dZ)(has:dZ++cD=gz)(lg:br P f gz r)(an:aj P fn c (.ops false all rest k) ((d,r)::fr) H):aj P fn c (.ops false all (⟨some d,.call {callee:= .value g,args:=args.toArray,argTypes:=hZ},ty,pos,after,none⟩::rest) k) fr H:=
 Db c9 aW has (lg H) (fun _ h=>h) (fun _ h=>h) (fun dF bK h=>by obtain ⟨rfl,rfl⟩:=h;exact an)
theorem JU {cD dZ gz zj:List ao}{r:ao}(c9:bH fr g=some (.fn f cD))(aW:lb fr args=some dZ)(has:dZ++cD=gz)(au:ao.qC H gz=zj)(lg:br P f zj r)(fk: ∀(h:Nat) (o:bm),H[h]? =some (some o)→e5 o.c)(ei:pA H gz)(aG:c2.e9 zj=true)(ad:c2 r=true)(hD:flat r=true)(an:aj P fn c (.ops false all rest k) ((d,r)::fr) H):aj P fn c (.ops false all (⟨some d,.call {callee:= .value g,args:=args.toArray,argTypes:=hZ},ty,pos,after,none⟩::rest) k) fr H:=
 Db c9 aW has (br.M5 lg fk au ei aG ad hD) (fun _ h=>h) (fun _ h=>h) (fun dF bK h=>by obtain ⟨rfl,rfl⟩:=h;exact an)
theorem nR {cD dZ gz:List ao}{r:Nat→ao}{o:bm}(c9:bH fr g=some (.fn f cD))(aW:lb fr args=some dZ)(has:dZ++cD=gz)(lg:A2 P f gz r o)(an:aj P fn c (.ops false all rest k) ((d,r H.length)::fr) (H++[some o])):aj P fn c (.ops false all (⟨some d,.call {callee:= .value g,args:=args.toArray,argTypes:=hZ},ty,pos,after,none⟩::rest) k) fr H:=
 Db c9 aW has (lg H) (fun _ h=>h) (fun _ h=>h) (fun dF bK h=>by obtain ⟨rfl,rfl⟩:=h;exact an)
theorem sL {cD dZ gz:List ao}{fix:Nat→Prop}{K:ao→aY→Prop}(c9:bH fr g=some (.fn f cD))(aW:lb fr args=some dZ)(has:dZ++cD=gz)(lg:cm P f gz H fix K)(hp: ∀h,h<H.length→fix h)(hD: ∀h,fix h→h<H.length)(an: ∀r bK,K r bK→aj P fn c (.ops false all rest k) ((d,r)::fr) bK):aj P fn c (.ops false all (⟨some d,.call {callee:= .value g,args:=args.toArray,argTypes:=hZ},ty,pos,after,none⟩::rest) k) fr H:=
 Db c9 aW has lg hp hD an
end
theorem mc {k:IntKind}{l:List Int}:e5 (.ints k l):=UO rfl
theorem NO {l:List (List UInt8)}:e5 (.strs l):=UO rfl
theorem vG {o1:bm}(U:e5 o1.c): ∀(h:Nat) (o:bm),([some o1]:aY)[h]? =some (some o)→e5 o.c:=by
 have bY:= ‹bx›;intro h o ai
 match h,ai with
 |0,ai=>simp at ai;subst ai;exact U
 |_+1,ai=>simp at ai
theorem TY {o1 o2:bm}(U:e5 o1.c)(ab:e5 o2.c): ∀(h:Nat) (o:bm),([some o1,some o2]:aY)[h]? =some (some o)→e5 o.c:=by
 have bY:= ‹bx›;intro h o ai
 match h,ai with
 |0,ai=>simp at ai;subst ai;exact U
 |1,ai=>simp at ai;subst ai;exact ab
 |_+2,ai=>simp at ai
end Go.aj
namespace Go.aj
variable [bx]
open Go.RowKit
def cG (a b:Cells):Prop:=b.len=a.len∧b.b7=a.b7∧ ∀i j,i<a.len→j<a.aI→b.at i j=a.at i j
def aP (H bK:aY):Prop:=bK.length=H.length∧ ∀(h:Nat) (o':bm),bK[h]? =some (some o')→ ∃o:bm,H[h]? =some (some o)∧o'.ty=o.ty∧cG o.c o'.c
theorem cG.refl (a:Cells):cG a a:=have bY:= ‹bx›;⟨rfl,rfl,fun _ _ _ _=>rfl⟩
theorem aP.refl (H:aY):aP H H:=⟨rfl,fun _ o h=>⟨o,h,rfl,cG.refl _⟩⟩
theorem aP.nil:aP [] []:=aP.refl []
theorem aP.cons {x y:Option bm}{H bK:aY}(al: ∀o',y=some o'→ ∃o,x=some o∧o'.ty=o.ty∧cG o.c o'.c)(h:aP H bK):aP (x::H) (y::bK):=by
 have bY:= ‹bx›;refine ⟨by simp [h.1],fun i o' ai=> ?_⟩;cases i with
 |zero=>
  simp only [List.getElem?_cons_zero,dG] at ai;obtain ⟨o,rfl,U,ab⟩:=al o' ai;exact ⟨o,b1,U,ab⟩
 |succ i=>simpa using h.2 i o' (by simpa using ai)
theorem aP.same {x:Option bm}{H bK:aY}(h:aP H bK):aP (x::H) (x::bK):=aP.cons (fun o ai=>⟨o,ai,rfl,cG.refl _⟩) h
theorem aP.eqv {t:TypeId}{a b:Cells}{H bK:aY}(av:cG a b)(h:aP H bK):aP (some ⟨t,a⟩::H) (some ⟨t,b⟩::bK):=
 aP.cons (fun o ai=>by cases ai;exact ⟨_,rfl,rfl,av⟩) h
theorem aP.drop {x:Option bm}{H bK:aY}(h:aP H bK):aP (x::H) (none::bK):=aP.cons (fun o ai=>by cases ai) h
theorem cd.heap {c:Ctx}{w:World}{a:Act}{σ:Nat→Option bP}{S:Nat→Prop}{n:Nat}{fr:Fr}{H bK:aY}(ad:cd c w a σ S n fr H)(az:aP H bK):cd c w a σ S n fr bK:=by
 refine ⟨⟨fun h o' ai=> ?_,fun h aS o o' b s C ct cM bQ bX aE aF=> ?_,ad.ad.small,fun h au=>ad.ad.ie h (by rw [←az.1];exact au)⟩,⟨ad.bk.os,ad.bk.output,ad.bk.tape,ad.bk.size,ad.bk.block,ad.bk.hV,ad.bk.fb,ad.bk.fixed,fun h aR=>by rw [az.1];exact ad.bk.jF h aR,fun h o b s C q e=> ?_⟩,ad.defers,ad.size,ad.fl⟩
 ·obtain ⟨o,U,ab,ay,bc,bI⟩:=az.2 h o' ai;rw [ay,A1 bc];rcases ad.ad.live h o U with g|⟨b,C,cur,g1,g2,g3,g4,g5,g6,g7⟩
  ·exact .inl g
  ·exact .inr ⟨b,C,cur,g1,g2.b7 ab bc,g3,g4,g5,g6,fun i j aa ae=>by rw [bI i j aa ae];exact g7 i j aa ae⟩
 ·obtain ⟨p,U,_⟩:=az.2 h o bQ;obtain ⟨p1,gF,_⟩:=az.2 aS o' bX;exact ad.ad.hB h aS p p1 b s C ct cM U gF aE aF
 ·obtain ⟨p,U,_⟩:=az.2 h o q;exact ad.bk.own h p b s C U e
section
variable {P:Program}{fn:Func}{c:Ctx}{fr:Fr}{H:aY}{k:List eO}
theorem mJ {x:Code}(bK:aY)(az:aP H bK)(h:aj P fn c (.code x k) fr bK):aj P fn c (.code x k) fr H:=
 fun w a σ S ad=>h w a σ S (ad.heap az)
theorem fD {q:Bool}{all:Array Oper}{rest:List Oper}(bK:aY)(az:aP H bK)(h:aj P fn c (.ops q all rest k) fr bK):aj P fn c (.ops q all rest k) fr H:=by
 cases q with
 |true=>exact fun hd w a σ S ad=>h hd w a σ S (ad.heap az)
 |false=>exact fun hd w a σ S ad=>h hd w a σ S (ad.heap az)
end
end Go.aj
namespace Go.aj
variable [bx]
open Go.ChangeShapes Go.WideShapes Go.ChangeAt Go.RowKit
section
variable {H:Type}{enc:TypeId×Value→H}{P:Program}{W W':World}
theorem alL (an: ∀b,b<W.heap.size→W'.heap[b]? =W.heap[b]?)(p:MemPlace)(aD:p.block<W.heap.size):W.sameAt W' p:=by
 have bY:= ‹bx›;cases p with
 |cell b off=>
  show W'.cell? _=W.cell? _;exact World.cell?_of_block (an b aD)
 |map b=>exact an b aD
theorem UQ {spare:Nat→Bool}{base:Nat}{held:Bool}: ∀{IH:List TypeId} {vs:List Value} {wo:List (DataW H)} {iT:List MemPlace},DataW.TrodAll enc P W base spare held IH vs wo iT→(∀p∈iT,W.sameAt W' p)→DataW.TrodAll enc P W' base spare held IH vs wo iT
 |[],[],[],_,h,_=>have bY:= ‹bx›;h
 |_::_,_::_,_::_,_,⟨p,q,⟨n,U⟩,ab,e⟩,az=>
  ⟨p,q,⟨n,DataW.trod_carry n _ _ _ U (fun x al=>az x (by rw [e];exact s9 _ al))⟩,UQ ab (fun x al=>az x (by rw [e];exact List.mem_append_right _ al)),e⟩
theorem alI (ai:W'.os=W.os)(aD:W'.output=W.output)(an: ∀b,b<W.heap.size→W'.heap[b]? =W.heap[b]?)(may:MemPlace→Prop):W.keptBut W' may:=by
 have bY:= ‹bx›;refine ⟨ai,aD,fun i aa=> ?_⟩;rw [an i aa];split
 ·rename_i U ab;rw [U] at ab;cases ab;exact ⟨rfl,rfl,rfl,fun _ _=>rfl⟩
 ·rename_i U ab;rw [U] at ab;cases ab;exact .inr ⟨rfl,rfl⟩
 ·rfl
theorem apv {f:Func}{s:ChangeSpec}{t:TypeId}{apart fresh handsOn:Bool}{args:Array Value}{wo gs:List (DataW H)}{before:List MemPlace}(gO:DataW.Whole enc P f.params.toList s.vars apart W args.toList wo gs before)(af:s.vars=[])(az:s.fn H wo={results:=[.lit (.bool true)],args:=wo,vars:=[]})(ad:f.resultTypes= #[t])(bu:P.underlying t=some .bool)(au:laidOutB P=true)(hm:mapsRowed P=true)(bB:((List.range P.types.size).all fun t=>match P.underlying t with|some (.slice e)=>decide (0<P.cellsOf e)|_=>true)=true)(agh:(f.params.toList.all (fun t=>decide (t<P.types.size)))=true)(ai:W'.os=W.os)(aD:W'.output=W.output)(an: ∀b,b<W.heap.size→W'.heap[b]? =W.heap[b]?):
 s.post enc P f apart fresh handsOn false W args (.bool true) W':=by
 have bG:=gO.lt;have LF:=gO;obtain ⟨p,q,iP,og,HV,_,_⟩:=gO;rw [af] at og;have BL:gs=[]∧q=[]:=by
  cases gs with
  |nil=>exact ⟨rfl,og⟩
  |cons g r=>exact og.elim
 obtain ⟨rfl,rfl⟩:=BL;simp only [lA] at HV;subst HV;have mW:=DataW.TrodAll.respare (spare':=fun b=>decide (b<W.heap.size)) (kids_rows au hm) (slices_full_of P bB) (fun t bu=>by simpa using se.1 agh t bu) iP (fun x al=>by simpa using bG x al);have adr:=UQ (W':=W') mW (fun x al=>alL an x (bG x al));refine ⟨wo,[],before,[],before,[],LF,?_,?_,?_,alI ai aD an _,fun h=>nomatch h⟩
 ·rw [lA,az,ad];exact trodAll_cons_mk (shut_bool bu _) trodAll_mk0
 ·rw [lA,az];exact adr
 ·rw [lA,az,af];exact rfl
theorem apg {f:FuncId}{dZ:List ao}{args:Array Value}(av:br P f dZ (.bool true))(cy:args.size=dZ.length)(af: ∀i,i<dZ.length→bz W (fun b=>b<W.heap.size) (fun _=>none) (dZ.getD i .any) (args.getD i undef))(aD:qf W (fun b=>b<W.heap.size) (fun _=>none) []):
 Calls P f args W (fun e W'=>e= .returned (.bool true)∧W'.os=W.os∧W'.output=W.output∧ ∀b,b<W.heap.size→W'.heap[b]? =W.heap[b]?):=by
 have ad:lU W (fun b=>b<W.heap.size) (fun _=>none) []:=⟨fun h o ai=>by simp at ai,fun h aS o o' b s C ct cM q=>by simp at q,fun b h=>h,fun _ _=>rfl⟩
 refine Calls.mono ((av []).2 W (fun _=>none) (fun b=>b<W.heap.size) args aD ad (fun h aX=>aX) ⟨cy,af⟩) fun e W' he=> ?_;obtain ⟨v,r,bC,cb,bK,rfl,g2,g3,g4,rfl,g6⟩:=he;have:v= .bool true:=by cases g3;rfl
 subst this;refine ⟨I,g4.os,g4.output,fun b ak=>g4.block b ak ?_⟩;rintro ⟨h,o,s,C,q,_⟩;simp at q
end
end Go.aj
namespace Go.aj
variable [bx]
open Go.RowKit
section
variable {ind:Bool}{P:Program}{fn:Func}{c:Ctx}{fr:Fr}{H:aY}{k:List eO}
variable {d:Option Nat}{ty:TypeId}{pos:String}{after:Array Edge}{g:Option (Nat×Bool)}
theorem NB {op:BinOp}{t:TypeId}{x y:Operand}{a b:ByteArray}{w:World}:(eqGuard op t x y (.string a) (.string b)).run P w= .ok () w:=by have bY:= ‹bx›;unfold eqGuard;split<;>rfl
theorem Vw (s:List UInt8):(⟨s.toArray⟩:ByteArray).toList=s:=have bY:= ‹bx›;ByteArray.toList_mk s
theorem yT {x y:Operand}{t cC:TypeId}{a b:List UInt8}(al:bH fr x=some (.str a))(a1:bH fr y=some (.str b)):bZ ind P fn c fr H ⟨d,.binOp .eql t x y cC,ty,pos,after,g⟩ (.bool (decide (a=b))):=by
 intro w ac σ S ad;refine ⟨_,.bool _ _,fun w' _=> ?_⟩;have U:=ad.wv al;have ab:=ad.wv a1;have e:(a==b)=decide (a=b):=by rw [xH];simp
 simp [execOp,U,ab,pD,NB,binOp,Op.stringOp,e]
theorem PI {x y:Operand}{t cC:TypeId}{a b:List UInt8}(al:bH fr x=some (.str a))(a1:bH fr y=some (.str b)):bZ ind P fn c fr H ⟨d,.binOp .neq t x y cC,ty,pos,after,g⟩ (.bool (decide (¬a=b))):=by
 intro w ac σ S ad;refine ⟨_,.bool _ _,fun w' _=> ?_⟩;have U:=ad.wv al;have ab:=ad.wv a1;have e:(a==b)=decide (a=b):=by rw [xH];simp
 simp [execOp,U,ab,pD,NB,binOp,Op.stringOp,e]
theorem AJ {x y:Operand}{t cC:TypeId}{a b:List UInt8}(al:bH fr x=some (.str a))(a1:bH fr y=some (.str b))(ak:a.length+b.length≤9223372036854775807):bZ ind P fn c fr H ⟨d,.binOp .add t x y cC,ty,pos,after,g⟩ (.str (a++b)):=by
 intro w ac σ S ad;refine ⟨_,.str _ _,fun w' _=> ?_⟩;have U:=ad.wv al;have ab:=ad.wv a1;have aE:(⟨a.toArray⟩:ByteArray).size=a.length:=Gh a;have aF:(⟨b.toArray⟩:ByteArray).size=b.length:=Gh b;have bO:(⟨a.toArray⟩++⟨b.toArray⟩:ByteArray)=⟨(a++b).toArray⟩:=by apply WideShapes.bytes_inj;simp
 have hM: ¬((IntKind.i64.max)<((a.length+b.length:Nat):Int)):=by have:IntKind.i64.max=9223372036854775807:=aT;rw [this];omega
 have xW: ¬(IntKind.i64.max<(a.length:Int)+(b.length:Int)):=by simpa using hM
 simp [execOp,U,ab,pD,NB,binOp,Op.stringOp,aE,aF,bO];omega
theorem Yf {x i:Operand}{t:TypeId}{s:List UInt8}{eC:IntKind}{m:Int}(bu:P.underlying t=some .string)(al:bH fr x=some (.str s))(aa:bH fr i=some (.int eC m))(ak:0≤m∧m<s.length):
 bZ ind P fn c fr H ⟨d,.index t x i,ty,pos,after,g⟩ (.int .u8 ((s.getD m.toNat 0).toNat:Nat)):=by
 intro w ac σ S ad;refine ⟨_,.int _ _ _,fun w' _=> ?_⟩;have U:=ad.wv al;have ab:=ad.fq aa;have bG:m.toNat<s.length:=J;have e:(⟨s.toArray⟩:ByteArray)[m.toNat]? =some (s.getD m.toNat 0):=by
  have cy:(⟨s.toArray⟩:ByteArray).size=s.length:=Gh s;have:m.toNat<(⟨s.toArray⟩:ByteArray).size:=by rw [cy];exact bG
  rw [getElem?_pos (⟨s.toArray⟩:ByteArray) m.toNat this];congr 1;show s.toArray[m.toNat]=_;simp [List.getD,bG]
 simp [execOp,U,ab,pD,Instr.index,asIntOf,run_underlying bu,ak.1,e]
theorem alW {a:Act}{dO w:World}{σ:Nat→Option bP}{S:Nat→Prop}{n:Nat}(ad:cd c dO a σ S n fr H){js aa:Option Operand}{ou aQ:Option ao}{len:Nat}{l h:Int}(U:oe fr js=some ou)(ab:oe fr aa=some aQ)(ay:oI 0 ou=some l)(bc:oI len aQ=some h)(ak:0≤l∧l≤h∧h≤len):
 (Instr.sliceBounds false len len (js.map a.eval) (aa.map a.eval) none).run P w= .ok (l.toNat,h.toNat,len) w:=
 Cr ad U ab ay bc ⟨ak.1,ak.2.1,ak.2.2⟩
theorem CF {x:Operand}{t:TypeId}{js aa:Option Operand}{ou aQ:Option ao}{s:List UInt8}{l h:Int}(bu:P.underlying t=some .string)(al:bH fr x=some (.str s))(U:oe fr js=some ou)(ab:oe fr aa=some aQ)(ay:oI 0 ou=some l)(bc:oI s.length aQ=some h)(ak:0≤l∧l≤h∧h≤s.length):
 bZ ind P fn c fr H ⟨d,.slice t x js aa none,ty,pos,after,g⟩ (.str ((s.drop l.toNat).take (h.toNat-l.toNat))):=by
 intro w ac σ S ad;refine ⟨_,.str _ _,fun w' _=> ?_⟩;have aE:=ad.wv al;have cy:(⟨s.toArray⟩:ByteArray).size=s.length:=Gh s;have aF:=alW (P:=P) (w:=w') ad U ab ay bc ak;have bO:(⟨s.toArray⟩:ByteArray).extract l.toNat h.toNat=⟨((s.drop l.toNat).take (h.toNat-l.toNat)).toArray⟩:=by apply WideShapes.bytes_inj;rw [Lib.extract_data]
 simp [execOp,Instr.sliceAt,run_underlying bu,aE,pD,Instr.slice,cy,aF,bO]
theorem aiU {x y:Operand}{hZ:Array TypeId}{et eS:IntKind}{m n:Int}(al:bH fr x=some (.int et m))(a1:bH fr y=some (.int eS n)):
 bZ ind P fn c fr H ⟨d,.call {callee:= .builtin .max,args:= #[x,y],argTypes:=hZ},ty,pos,after,g⟩ (.int et (if n>m then n else m)):=by intro w ac σ S ad;refine ⟨_,.int _ _ _,fun w' _=> ?_⟩;simp [execOp,resolve,ad.fq al,ad.fq a1,invoke,builtin,Builtin.max_,Builtin.max2]
theorem TU {x y:Operand}{hZ:Array TypeId}{et eS:IntKind}{m n:Int}(al:bH fr x=some (.int et m))(a1:bH fr y=some (.int eS n)):
 bZ ind P fn c fr H ⟨d,.call {callee:= .builtin .min,args:= #[x,y],argTypes:=hZ},ty,pos,after,g⟩ (.int et (if n<m then n else m)):=by intro w ac σ S ad;refine ⟨_,.int _ _ _,fun w' _=> ?_⟩;simp [execOp,resolve,ad.fq al,ad.fq a1,invoke,builtin,Builtin.min_,Builtin.min2]
theorem Kb {f:FuncId}{cD:List Operand}{l:List ao}(au:lb fr cD=some l):
 bZ ind P fn c fr H ⟨d,.makeFunc (.func f) #[] cD.toArray,ty,pos,after,g⟩ (.fn f l):=by
 intro w ac σ S ad;obtain ⟨aE,aF⟩:=FT ad cD l au;refine ⟨.func (.func f) #[] (cD.map ac.eval).toArray,.fn _ _ _ _ (by simp [aE]) (fun i aa=> ?_),fun w' _=> ?_⟩
 ·have:=aF i aa;have bG:i<cD.length:=J;have e:(cD.map ac.eval).toArray.getD i undef=(cD.map ac.eval).getD i undef:=by simp [List.getD,bG]
  rw [e];exact this
 ·simp [execOp,Instr.makeFunc]
theorem lq {x:Operand}{t:TypeId}{u:TypeDesc}{l:List ao}{i j:Nat}{v:ao}(bu:P.underlying t=some u)(hu:jy u=false)(al:bH fr x=some (.cK (.box l) i j))(af:l[j]? =some v):
 bZ false P fn c fr H ⟨d,.load t x,ty,pos,after,g⟩ v:=
 JG bu hu al (rb (gZ.1 af).1) (by simp [Cells.at,List.getD,af])
theorem OE {w:World}{S:Nat→Prop}{σ:Nat→Option bP}{cs:Array Value}{L:List ao}(h:qn w S σ cs L): ∀i j,i<(Cells.box L).len→j<(Cells.box L).aI→ ∃v,cs[i*(Cells.box L).aI+j]? =some v∧bz w S σ ((Cells.box L).at i j) v∧v.oneCell'=true:=by
 have bY:= ‹bx›;intro i j aa ae;simp only [Cells.len,Cells.aI] at aa ae;have:i=0:=J;subst this;obtain ⟨U,ab⟩:=h.2 j ae;have bG:j<cs.size:=by rw [h.1];exact ae
 exact ⟨cs.getD j undef,by simp [bG],U,ab⟩
theorem vD {all:Array Oper}{d:Nat}{t:TypeId}{x:Operand}{ty:TypeId}{pos:String}{after:Array Edge}{rest:List Oper}{v:ao}{L:List ao}(al:bH fr x=some v)(av:v.wk=some L)(an:aj P fn c (.ops false all rest k) ((d,.ptr H.length 0 0)::fr) (H++[some ⟨t,.box L⟩])):aj P fn c (.ops false all (⟨some d,.box t x,ty,pos,after,none⟩::rest) k) fr H:=by
 refine uD (fun w a σ S ad=> ?_) an;have U:=ad.ek al;have aW:=Wm U av;have eR:(execOp a.eval ⟨some d,.box t x,ty,pos,after,none⟩).run P w= .ok (.value (.pointer (some ⟨w.heap.size,0,none⟩))) (w.alloc (.cells (a.eval x).cells t (0,0))):=by simp [execOp,Instr.box,newVar,newRow]
 refine ⟨_,_,_,S,eR,ad.alloc (o:=⟨t,.box L⟩) (C:=1) (cur:=(a.eval x).cells) (bN _) (by unfold maxLen;omega) (by simp [Cells.aI,aW.1]) (OE aW),?_⟩;have:=bz.ptr (w:=w.alloc (.cells (a.eval x).cells t (0,0))) (S:=S) (cZ σ H.length (.at w.heap.size (Cells.box L).aI 1)) H.length 0 0 w.heap.size (Cells.box L).aI 1 (by simp [cZ]);simpa using this
theorem mf {all:Array Oper}{d:Nat}{t:TypeId}{ty:TypeId}{pos:String}{after:Array Edge}{rest:List Oper}{inf:TypeInfo}{z:Value}{zs:List ao}(aa:P.info? t=some inf)(bB:inf.zero=some z)(lF:vN z=some zs)(an:aj P fn c (.ops false all rest k) ((d,.ptr H.length 0 0)::fr) (H++[some ⟨t,.box zs⟩])):aj P fn c (.ops false all (⟨some d,.alloc t,ty,pos,after,none⟩::rest) k) fr H:=by
 refine uD (fun w a σ S ad=> ?_) an;have aW:qn w S σ z.cells zs:=FM lF;have eR:(execOp a.eval ⟨some d,.alloc t,ty,pos,after,none⟩).run P w= .ok (.value (.pointer (some ⟨w.heap.size,0,none⟩))) (w.alloc (.cells z.cells t (0,0))):=by simp [execOp,Instr.alloc,newVar,newRow,zeroValue,typeInfo,aa,bB]
 refine ⟨_,_,_,S,eR,ad.alloc (o:=⟨t,.box zs⟩) (C:=1) (cur:=z.cells) (bN _) (by unfold maxLen;omega) (by simp [Cells.aI,aW.1]) (OE aW),?_⟩;have:=bz.ptr (w:=w.alloc (.cells z.cells t (0,0))) (S:=S) (cZ σ H.length (.at w.heap.size (Cells.box zs).aI 1)) H.length 0 0 w.heap.size (Cells.box zs).aI 1 (by simp [cZ]);simpa using this
end
def KF (a b:Cells):Prop:=b.len≤a.len∧b.b7=a.b7∧ ∀i j,i<b.len→j<a.aI→b.at i j=a.at i j
theorem cd.Ns {c:Ctx}{w:World}{a:Act}{σ:Nat→Option bP}{S:Nat→Prop}{n:Nat}{fr:Fr}{H:aY}(ad:cd c w a σ S n fr H){h:Nat}{o:bm}(aX:H[h]? =some (some o)){c':Cells}(bu:KF o.c c'):cd c w a σ S n fr (H.set h (some ⟨o.ty,c'⟩)):=by
 obtain ⟨t1,t2,t3⟩:=bu;have bG:h<H.length:=(gZ.1 aX).1;have c7: ∀(aS:Nat) (o':bm),(H.set h (some ⟨o.ty,c'⟩))[aS]? =some (some o')→ ∃dt:bm,H[aS]? =some (some dt)∧o'.ty=dt.ty∧KF dt.c o'.c:=by
  intro aS o' ai;by_cases he:aS=h
  ·subst he;simp only [oP bG,dG] at ai;subst ai;exact ⟨o,aX,I,t1,t2,t3⟩
  ·rw [lW (ra he)] at ai;exact ⟨o',ai,I,bN _,I,fun _ _ _ _=>rfl⟩
 refine ⟨⟨fun aS o' ai=> ?_,fun U ab o1 o2 b s C ct cM bQ bX aE aF=> ?_,ad.ad.small,fun aS au=>ad.ad.ie aS (by simpa using au)⟩,⟨ad.bk.os,ad.bk.output,ad.bk.tape,ad.bk.size,ad.bk.block,ad.bk.hV,ad.bk.fb,ad.bk.fixed,fun aS aR=>by simpa using ad.bk.jF aS aR,fun aS o' b s C q e=> ?_⟩,ad.defers,ad.size,ad.fl⟩
 ·obtain ⟨dt,U,ab,ay,bc,bI⟩:=c7 aS o' ai;rw [A1 bc];rcases ad.ad.live aS dt U with g|⟨b,C,cur,g1,g2,g3,g4,g5,g6,g7⟩
  ·exact .inl ⟨g.1,by have:=g.2;omega⟩
  ·exact .inr ⟨b,C,cur,g1,g2.b7 ab bc,g3,g4,J,g6,fun i j aa ae=>by rw [bI i j aa ae];exact g7 i j J ae⟩
 ·obtain ⟨p,c4,_⟩:=c7 U o1 bQ;obtain ⟨p1,Ak,_⟩:=c7 ab o2 bX;exact ad.ad.hB U ab p p1 b s C ct cM c4 Ak aE aF
 ·obtain ⟨p,c4,_⟩:=c7 aS o' q;exact ad.bk.own aS p b s C c4 e
section
variable {P:Program}{fn:Func}{c:Ctx}{fr:Fr}{H:aY}{k:List eO}
theorem JW {x:Code}(h:Nat){o:bm}(c':Cells)(aX:H[h]? =some (some o))(bu:KF o.c c')(an:aj P fn c (.code x k) fr (H.set h (some ⟨o.ty,c'⟩))):aj P fn c (.code x k) fr H:=
 fun w a σ S ad=>an w a σ S (ad.Ns aX bu)
theorem ame {q:Bool}{all:Array Oper}{rest:List Oper}(h:Nat){o:bm}(c':Cells)(aX:H[h]? =some (some o))(bu:KF o.c c')(an:aj P fn c (.ops q all rest k) fr (H.set h (some ⟨o.ty,c'⟩))):aj P fn c (.ops q all rest k) fr H:=by
 cases q with
 |true=>exact fun hd w a σ S ad=>an hd w a σ S (ad.Ns aX bu)
 |false=>exact fun hd w a σ S ad=>an hd w a σ S (ad.Ns aX bu)
end
def aU (x y:ao):Prop:= ∀(w:World) (S:Nat→Prop) (σ:Nat→Option bP) (v:Value),bz w S σ x v→bz w S σ y v
theorem aU.ro {c c':Cells}{i aK n:Nat}(az:c'.aI=c.aI)(h: ∀d j,d<n→j<c.aI→c'.at (aK+d) j=c.at (i+d) j):aU (.ro c i n) (.ro c' aK n):=by
 have bY:= ‹bx›;intro w S σ v af;cases af with
 |ko=>exact .ko _ _ _ _ _
 |ro _ _ _ _ b o cap val dm hlen av af U=>
  refine .ro _ _ _ _ b o cap val dm hlen (fun d j hd ae=> ?_) (fun d j hd ae=> ?_) (fun d j hd ae=>U d j hd (by rwa [az] at ae))
  ·rw [az] at ae⊢;exact av d j hd ae
  ·rw [az] at ae;rw [h d j hd ae];exact af d j hd ae
theorem aU.of_eq {x y:ao}(h:x=y):aU x y:=have bY:= ‹bx›;fun _ _ _ _ af=>h▸af
theorem aU.yo {x:ao}:aU x x:=have bY:= ‹bx›;fun _ _ _ _ af=>af
theorem aU.trans {x y z:ao}(h:aU x y)(aS:aU y z):aU x z:=have bY:= ‹bx›;fun _ _ _ _ af=>aS _ _ _ _ (h _ _ _ _ af)
theorem aU.IB {c c':Cells}{i aK n:Nat}(az:c'.aI=c.aI)(h: ∀d j,d<n→j<c.aI→aU (c.at (i+d) j) (c'.at (aK+d) j)):aU (.ro c i n) (.ro c' aK n):=by
 have bY:= ‹bx›;intro w S σ v af;cases af with
 |ko=>exact .ko _ _ _ _ _
 |ro _ _ _ _ b o cap val dm hlen av af U=>
  refine .ro _ _ _ _ b o cap val dm hlen (fun d j hd ae=> ?_) (fun d j hd ae=> ?_) (fun d j hd ae=>U d j hd (by rwa [az] at ae))
  ·rw [az] at ae⊢;exact av d j hd ae
  ·rw [az] at ae;exact h d j hd ae _ _ _ _ (af d j hd ae)
theorem aU.take {k:IntKind}{l:List Int}{n:Nat}:aU (.ro (.ints k l) 0 n) (.ro (.ints k (l.take n)) 0 n):=
 aU.ro rfl (fun d j hd _=>by simp only [Cells.at,cR,List.getD,qs,hd,gg])
theorem aU.drop {k:IntKind}{l:List Int}{i n:Nat}:aU (.ro (.ints k l) i n) (.ro (.ints k (l.drop i)) 0 n):=
 aU.ro rfl (fun d j hd _=>by simp only [Cells.at,cR,List.getD,List.getElem?_drop])
theorem aU.nil {c:Cells}{i:Nat}:aU .nil (.ro c i 0):=by have bY:= ‹bx›;intro w S σ v af;cases af;exact .ko _ _ _ _ _
theorem cd.slot {c:Ctx}{w:World}{a:Act}{σ:Nat→Option bP}{S:Nat→Prop}{n t:Nat}{fr:Fr}{H:aY}{x y:ao}(ad:cd c w a σ S n fr H)(au:look t fr=some x)(h:aU x y):cd c w a σ S n ((t,y)::fr) H:=by
 refine ⟨ad.ad,ad.bk,ad.defers,ad.size,fun u v hu=> ?_⟩;simp only [look] at hu;by_cases he:u=t
 ·subst he;simp only [pP,lV,dG] at hu;subst hu;exact ⟨(ad.fl u x au).1,h _ _ _ _ (ad.fl u x au).2⟩
 ·simp only [dz he,oN] at hu;exact ad.fl u v hu
section
variable {P:Program}{fn:Func}{c:Ctx}{fr:Fr}{H:aY}{k:List eO}
theorem ea {x:Code}(t:Nat){v:ao}(y:ao)(au:look t fr=some v)(h:aU v y)(an:aj P fn c (.code x k) ((t,y)::fr) H):aj P fn c (.code x k) fr H:=
 fun w a σ S ad=>an w a σ S (ad.slot au h)
theorem bR {q:Bool}{all:Array Oper}{rest:List Oper}(t:Nat){v:ao}(y:ao)(au:look t fr=some v)(h:aU v y)(an:aj P fn c (.ops q all rest k) ((t,y)::fr) H):aj P fn c (.ops q all rest k) fr H:=by
 cases q with
 |true=>exact fun hd w a σ S ad=>an hd w a σ S (ad.slot au h)
 |false=>exact fun hd w a σ S ad=>an hd w a σ S (ad.slot au h)
end
theorem br.It {P:Program}{f:FuncId}{args:List ao}{r:ao}(aR: ∃fn,P.funcs[f]? =some fn∧(fn.name== "runtime.NumGoroutine")=false∧fn.body.isNone=false)(aG:c2.e9 args=true)(ad:c2 r=true)(h: ∀(w:World) (S:Nat→Prop) (dH:Array Value),bx.G w S→(∀b,S b→b<w.heap.size)→pH w S (fun _=>none) args dH→
  Calls P f dH w (fun e w'=> ∃v,e= .returned v∧Below w.heap.size w w'∧bz w' (fun b=>S b∨(w.heap.size≤b∧b<w'.heap.size)) (fun _=>none) r v)):br P f args r:=by
 intro H;refine ⟨aR,fun w σ S dH aD kl kj af=> ?_⟩;refine (h w S dH aD.now kl.small (af.closed aG _)).mono ?_;rintro e w' ⟨v,rfl,ak,agp⟩;have hold: ∀b,b<w.heap.size→w'.heap[b]? =w.heap[b]? :=fun b ez=>ak.block b ez;have kM: ∀{mR:Nat→Option bP} {x v},bz w S mR x v→bz w' (fun b=>S b∨(w.heap.size≤b∧b<w'.heap.size)) mR x v:=fun h=>h.mono (fun _ h=> .inl h) (fun b az=>hold b (kl.small b az)) _ (fun _ _ h=>h);refine ⟨v,r,σ,fun b=>S b∨(w.heap.size≤b∧b<w'.heap.size),H,I,⟨fun h o ai=> ?_,kl.hB,fun b az=> ?_,kl.ie⟩,agp.closed ad σ,⟨ak.os,ak.output,ak.tape,ak.size,fun b ez _=>hold b ez,fun b az=> .inl az,fun b az=> ?_,fun _ _=>rfl,fun _ au=>au,fun h o b s C U ab=> .inl ⟨h,o,s,C,U,ab⟩⟩,I,I⟩
 ·rcases kl.live h o ai with g|⟨b,C,cur,g1,g2,g3,g4,g5,g6,g7⟩
  ·exact .inl g
  ·have bG:=g2.lt;refine .inr ⟨b,C,cur,g1,g2.mono (hold b bG) kM,g3,g4,g5,?_,fun i j aa ae=> ?_⟩
   ·rintro (az|az)
    ·exact g6 az
    ·omega
   ·obtain ⟨v,aE,aF,bO⟩:=g7 i j aa ae;exact ⟨v,aE,kM aF,bO⟩
 ·rcases az with az|az
  ·exact ha (kl.small b az) ak.size
  ·exact az.2
 ·rcases az with az|az
  ·exact .inl az
  ·exact .inr (.inr az.1)
end Go.aj
namespace Go.aj
variable [bx]
open Go.RowKit
section
variable {ind:Bool}{P:Program}{fn:Func}{c:Ctx}{fr:Fr}{H:aY}{k:List eO}
variable {d:Option Nat}{ty:TypeId}{pos:String}{after:Array Edge}{g:Option (Nat×Bool)}
theorem I7 {x:Operand}{t e:TypeId}{js aa:Option Operand}{ou aQ:Option ao}{aS i n:Nat}{bg:bm}{l h:Int}(bu:P.underlying t=some (.slice e))(al:bH fr x=some (.aC aS i n))(aX:H[aS]? =some (some bg))(az:(P.info? e).map (·.size)=some bg.c.aI)(U:oe fr js=some ou)(ab:oe fr aa=some aQ)(ay:oI 0 ou=some l)(bc:oI n aQ=some h)(ak:l=0∧0≤h∧h≤n):
 bZ ind P fn c fr H ⟨d,.slice t x js aa none,ty,pos,after,g⟩ (.aC aS i h.toNat):=by
 intro w a σ S ad;have yf:=ad.ek al;generalize bB:a.eval x=z at yf;obtain ⟨rfl,tx,BB⟩:=ak;cases yf with
 |iD _ _ bL=>
  have aM:h=0:=J;subst aM;refine ⟨.slice none 0 0,.iD _ _ bL,fun w' _=> ?_⟩;have oh:=Cr (P:=P) (w:=w') (B7:=true) (len:=0) (cap:=0) ad U ab ay bc ⟨J,J,J⟩;cases aA:P.info? e with
  |none=>simp [aA] at az
  |some inf=>simp [execOp,bB,Instr.sliceAt,Instr.slice,run_underlying bu,oh,sizeOf,typeInfo,aA]
 |aC _ _ _ _ b s C cap bL hlen kh=>
  obtain ⟨hf,cur,g1,g2,g3,g4,g5,g6⟩:=ad.obj aX bL;subst hf;refine ⟨.slice (some ⟨b,i*bg.c.aI,none⟩) h.toNat cap,.aC _ _ _ _ _ _ C _ bL J J,fun w' _=> ?_⟩;have oh:=Cr (P:=P) (w:=w') (B7:=true) (cap:=cap) ad U ab ay bc ⟨J,J,J⟩;cases aA:P.info? e with
  |none=>simp [aA] at az
  |some inf=>simp [execOp,bB,Instr.sliceAt,Instr.slice,run_underlying bu,oh,sizeOf,typeInfo,aA,Addr.add_lit]
end
end Go.aj
