import Derived.WalkKit
import Derived.Deep.Draws
import Derived.Deep.Quiet
import Derived.Scope
import Derived.WalkSpells
import Derived.ProofKit
import Derived.OpenShut
import Derived.ReadAgain
import Derived.ChangeSlices
import Derived.Lib.AppendZeros
import Derived.Lib.Strings
import Derived.Test.YtmpnheilfejcpaaGreatDoorH1
set_option linter.unusedVariables false
set_option linter.unusedSimpArgs false
theorem aE {p:Prop}(h:p:=by repeat (first|refine ⟨rfl,?_⟩|exact trivial)):p:=h
theorem I {α:Sort _}{a:α}:a=a:=rfl
theorem c3 {p:Prop}(h:p:=by have e:= ‹_=fun _=>False›;rw [e];exact fun h=>h):p:=h
theorem hp {p:Prop}(h:p:=by intro h aV;have e:= ‹_=fun _=>False›;rw [e] at aV;exact absurd aV id):p:=h
theorem hC {p:Prop}(h:p:=by first|(simp only [Nat.zero_add,Int.toNat_natCast,Int.toNat_zero];exact rfl)|exact rfl):p:=h
theorem dT {p:Prop}(h:p:=by show 0+1≤1;omega):p:=h
theorem og {p:Prop}(h:p:=by show (List.set _ _ _).length=_;rw [List.length_set];rfl):p:=h
theorem af {p:Prop}(h:p:=by kernel_rfl):p:=h
theorem J {p:Prop}(h:p:=by omega):p:=h
theorem aT {p:Prop}(h:p:=by decide):p:=h
theorem bX {p:Prop}(h:p:=by simp):p:=h
theorem h1 {p:Prop}(h:p:=by assumption):p:=h
theorem arf {p:Prop}(h:p:=by exact rfl):p:=h
theorem lg {p:Prop}(h:p:=by rfl):p:=h
theorem nC {p:Prop}(h:p:=by first|assumption|omega):p:=h
theorem Ic {p:Prop}(h:p:=by first|exact Nat.zero_lt_one|assumption|omega):p:=h
theorem ax:type_of% @if_neg:= @if_neg
theorem aA:type_of% @if_pos:= @if_pos
theorem bT:type_of% @Nat.le_refl:= @Nat.le_refl
theorem b7:type_of% @Nat.zero_le:= @Nat.zero_le
theorem cg:type_of% @Int.toNat_natCast:= @Int.toNat_natCast
theorem cr:type_of% @List.length_map:= @List.length_map
theorem cO:type_of% @List.mem_map:= @List.mem_map
theorem cT:type_of% @Nat.zero_add:= @Nat.zero_add
theorem c8:type_of% @List.length_append:= @List.length_append
theorem dd:type_of% @List.length_set:= @List.length_set
theorem dC:type_of% @Option.some.injEq:= @Option.some.injEq
theorem dK:type_of% @Nat.add_mul:= @Nat.add_mul
theorem dN:type_of% @Nat.le_trans:= @Nat.le_trans
theorem eb:type_of% @Bool.and_eq_true:= @Bool.and_eq_true
theorem er:type_of% @Nat.mul_le_mul_right:= @Nat.mul_le_mul_right
theorem eL:type_of% @decide_eq_true_eq:= @decide_eq_true_eq
theorem e0:type_of% @Classical.not_not:= @Classical.not_not
theorem e6:type_of% @Nat.add_zero:= @Nat.add_zero
theorem e7:type_of% @List.take_length:= @List.take_length
theorem e8:type_of% @List.length_replicate:= @List.length_replicate
theorem fc:type_of% @List.length_take:= @List.length_take
theorem fw:type_of% @Nat.lt_one_iff:= @Nat.lt_one_iff
theorem fA:type_of% @Nat.zero_lt_one:= @Nat.zero_lt_one
theorem fE:type_of% @Int.toNat_zero:= @Int.toNat_zero
theorem fF:type_of% @Nat.pow_le_pow_right:= @Nat.pow_le_pow_right
theorem fG:type_of% @decide_eq_true:= @decide_eq_true
theorem fS:type_of% @List.mem_cons:= @List.mem_cons
theorem fT:type_of% @decide_eq_false:= @decide_eq_false
theorem gf:type_of% @if_true:= @if_true
theorem gg:type_of% @Nat.not_lt_zero:= @Nat.not_lt_zero
theorem gn:type_of% @List.length_range:= @List.length_range
theorem gz:type_of% @Nat.lt_or_ge:= @Nat.lt_or_ge
theorem gK:type_of% @List.length_cons:= @List.length_cons
theorem gL:type_of% @Nat.lt_of_lt_of_le:= @Nat.lt_of_lt_of_le
theorem gM:type_of% @List.mem_append:= @List.mem_append
theorem gN:type_of% @Nat.lt_succ_self:= @Nat.lt_succ_self
theorem gV:type_of% @List.map_append:= @List.map_append
theorem hi:type_of% @List.getElem?_eq_some_iff:= @List.getElem?_eq_some_iff
theorem hj:type_of% @Nat.mul_comm:= @Nat.mul_comm
theorem hk:type_of% @Nat.mul_add:= @Nat.mul_add
theorem hz:type_of% @Nat.mul_le_mul_left:= @Nat.mul_le_mul_left
theorem hH:type_of% @if_false:= @if_false
theorem hI:type_of% @List.mem_singleton:= @List.mem_singleton
theorem hQ:type_of% @List.getElem?_append_left:= @List.getElem?_append_left
theorem hR:type_of% @Int.mul_zero:= @Int.mul_zero
theorem hY:type_of% @Nat.min_eq_left:= @Nat.min_eq_left
theorem ib:type_of% @List.getElem?_append_right:= @List.getElem?_append_right
theorem ic:type_of% @Nat.pow_succ:= @Nat.pow_succ
theorem iv:type_of% @Nat.le_of_ble_eq_true:= @Nat.le_of_ble_eq_true
theorem iI:type_of% @Nat.pow_add:= @Nat.pow_add
theorem je:type_of% @Rat.add_zero:= @Rat.add_zero
theorem ju:type_of% @Nat.add_assoc:= @Nat.add_assoc
theorem jS:type_of% @List.ext_getElem:= @List.ext_getElem
theorem jT:type_of% @Nat.mul_le_mul:= @Nat.mul_le_mul
theorem jU:type_of% @Rat.zero_add:= @Rat.zero_add
theorem kh:type_of% @Int.natAbs_mul:= @Int.natAbs_mul
theorem kG:type_of% @List.getElem?_eq_none:= @List.getElem?_eq_none
theorem kH:type_of% @Nat.mul_assoc:= @Nat.mul_assoc
theorem kI:type_of% @List.take_of_length_le:= @List.take_of_length_le
theorem kJ:type_of% @Int.mul_assoc:= @Int.mul_assoc
theorem kK:type_of% @List.getElem_map:= @List.getElem_map
theorem k2:type_of% @List.append_nil:= @List.append_nil
theorem k3:type_of% @List.getElem_of_mem:= @List.getElem_of_mem
theorem k4:type_of% @Int.natAbs_natCast:= @Int.natAbs_natCast
theorem k5:type_of% @List.map_congr_left:= @List.map_congr_left
theorem k6:type_of% @List.map_cons:= @List.map_cons
theorem lv:type_of% @List.length_nil:= @List.length_nil
theorem lx:type_of% @Nat.mod_lt:= @Nat.mod_lt
theorem ly:type_of% @List.getElem?_map:= @List.getElem?_map
theorem lz:type_of% @List.append_assoc:= @List.append_assoc
theorem lU:type_of% @cond_true:= @cond_true
theorem lV:type_of% @List.getElem?_set_ne:= @List.getElem?_set_ne
theorem lW:type_of% @Nat.pow_pos:= @Nat.pow_pos
theorem mM:type_of% @Bool.true_and:= @Bool.true_and
theorem mN:type_of% @Int.zero_mul:= @Int.zero_mul
theorem np:type_of% @Nat.mod_eq_of_lt:= @Nat.mod_eq_of_lt
theorem nq:type_of% @Rat.zero_mul:= @Rat.zero_mul
theorem nr:type_of% @Int.one_mul:= @Int.one_mul
theorem ns:type_of% @or_false:= @or_false
theorem nY:type_of% @List.getElem?_eq_getElem:= @List.getElem?_eq_getElem
theorem nZ:type_of% @List.take_succ_eq_append_getElem:= @List.take_succ_eq_append_getElem
theorem n0:type_of% @Nat.le_add_right:= @Nat.le_add_right
theorem n1:type_of% @Nat.sub_self:= @Nat.sub_self
theorem n2:type_of% @Nat.eq_zero_or_pos:= @Nat.eq_zero_or_pos
theorem n3:type_of% @Int.mul_comm:= @Int.mul_comm
theorem n4:type_of% @Rat.mul_comm:= @Rat.mul_comm
theorem oF:type_of% @cond_false:= @cond_false
theorem oG:type_of% @Option.some.inj:= @Option.some.inj
theorem oH:type_of% @List.getElem?_set_self:= @List.getElem?_set_self
theorem oI:type_of% @Nat.lt_irrefl:= @Nat.lt_irrefl
theorem oJ:type_of% @Nat.div_eq_of_lt:= @Nat.div_eq_of_lt
theorem oK:type_of% @List.getElem?_append:= @List.getElem?_append
theorem oL:type_of% @List.mem_of_getElem?:= @List.mem_of_getElem?
theorem oM:type_of% @List.getElem?_replicate:= @List.getElem?_replicate
theorem oN:type_of% @List.cons_append:= @List.cons_append
theorem oO:type_of% @Nat.add_comm:= @Nat.add_comm
theorem oP:type_of% @Int.eq_ofNat_of_zero_le:= @Int.eq_ofNat_of_zero_le
theorem oQ:type_of% @List.mem_nil_iff:= @List.mem_nil_iff
theorem pC:type_of% @Nat.eq_of_beq_eq_true:= @Nat.eq_of_beq_eq_true
theorem pD:type_of% @Nat.beq_refl:= @Nat.beq_refl
theorem pw:type_of% @Nat.ne_of_lt:= @Nat.ne_of_lt
theorem px:type_of% @Option.getD_some:= @Option.getD_some
theorem py:type_of% @List.getElem?_take:= @List.getElem?_take
theorem pz:type_of% @List.mem_of_mem_take:= @List.mem_of_mem_take
theorem pA:type_of% @Int.mul_left_comm:= @Int.mul_left_comm
theorem pB:type_of% @Rat.one_mul:= @Rat.one_mul
theorem qh:type_of% @List.all_eq_true:= @List.all_eq_true
theorem qi:type_of% @Nat.one_mul:= @Nat.one_mul
theorem qj:type_of% @List.drop_length:= @List.drop_length
theorem q3:type_of% @Ne.symm:= @Ne.symm
theorem q4:type_of% @Nat.ble_eq_true_of_le:= @Nat.ble_eq_true_of_le
theorem q5:type_of% @Nat.lt_of_le_of_lt:= @Nat.lt_of_le_of_lt
theorem q6:type_of% @Nat.mul_one:= @Nat.mul_one
theorem q7:type_of% @Nat.le_of_lt:= @Nat.le_of_lt
theorem r9:type_of% @Bool.false_eq_true:= @Bool.false_eq_true
theorem sa:type_of% @List.take_append_drop:= @List.take_append_drop
theorem sb:type_of% @Nat.zero_mul:= @Nat.zero_mul
theorem sc:type_of% @List.any_eq_true:= @List.any_eq_true
theorem sd:type_of% @List.drop_zero:= @List.drop_zero
theorem se:type_of% @Int.natAbs_neg:= @Int.natAbs_neg
theorem ta:type_of% @Option.map_some:= @Option.map_some
theorem tb:type_of% @List.mem_append_left:= @List.mem_append_left
theorem tc:type_of% @Nat.mul_zero:= @Nat.mul_zero
theorem td:type_of% @Bool.not_eq_true:= @Bool.not_eq_true
theorem te:type_of% @decide_eq_decide:= @decide_eq_decide
theorem tf:type_of% @Rat.intCast_mul:= @Rat.intCast_mul
theorem tg:type_of% @List.length_filter_le:= @List.length_filter_le
theorem th:type_of% @List.map_nil:= @List.map_nil
theorem ti:type_of% @List.range_succ:= @List.range_succ
theorem tj:type_of% @Eq.trans:= @Eq.trans
theorem tk:type_of% @Bool.false_ne_true:= @Bool.false_ne_true
theorem uu:type_of% @List.length_eq_zero_iff:= @List.length_eq_zero_iff
theorem uv:type_of% @Rat.mul_zero:= @Rat.mul_zero
theorem uw:type_of% @Int.neg_mul:= @Int.neg_mul
theorem ux:type_of% @Int.add_zero:= @Int.add_zero
theorem uy:type_of% @Rat.mul_assoc:= @Rat.mul_assoc
theorem uz:type_of% @List.any_eq_false:= @List.any_eq_false
theorem uA:type_of% @Bool.false_and:= @Bool.false_and
theorem vL:type_of% @dite_true:= @dite_true
theorem vM:type_of% @List.getElem?_range:= @List.getElem?_range
theorem vN:type_of% @Nat.add_sub_cancel_left:= @Nat.add_sub_cancel_left
theorem vO:type_of% @Nat.div_le_self:= @Nat.div_le_self
theorem vP:type_of% @List.mem_cons_of_mem:= @List.mem_cons_of_mem
theorem vQ:type_of% @List.mem_filter:= @List.mem_filter
theorem vR:type_of% @List.length_drop:= @List.length_drop
theorem vS:type_of% @Int.ofNat_lt:= @Int.ofNat_lt
theorem vT:type_of% @Bool.or_eq_true:= @Bool.or_eq_true
theorem vU:type_of% @Int.mul_nonneg:= @Int.mul_nonneg
theorem vV:type_of% @Rat.le_trans:= @Rat.le_trans
theorem vW:type_of% @List.getD_eq_getElem?_getD:= @List.getD_eq_getElem?_getD
theorem xt:type_of% @List.getElem?_toArray:= @List.getElem?_toArray
theorem xu:type_of% @Nat.sub_zero:= @Nat.sub_zero
theorem xv:type_of% @Bool.eq_iff_iff:= @Bool.eq_iff_iff
theorem xw:type_of% @List.mem_range:= @List.mem_range
theorem xx:type_of% @List.mem_cons_self:= @List.mem_cons_self
theorem xy:type_of% @List.pairwise_iff_getElem:= @List.pairwise_iff_getElem
theorem xz:type_of% @Nat.div_lt_of_lt_mul:= @Nat.div_lt_of_lt_mul
theorem xA:type_of% @List.set_set:= @List.set_set
theorem xB:type_of% @Nat.pow_le_pow_left:= @Nat.pow_le_pow_left
theorem xC:type_of% @Rat.add_assoc:= @Rat.add_assoc
theorem xD:type_of% @List.map_map:= @List.map_map
theorem xE:type_of% @Rat.intCast_natCast:= @Rat.intCast_natCast
theorem xF:type_of% @List.getElem_set:= @List.getElem_set
theorem xG:type_of% @List.nodup_cons:= @List.nodup_cons
theorem xH:type_of% @Rat.mul_nonneg:= @Rat.mul_nonneg
theorem xI:type_of% @Int.mul_neg:= @Int.mul_neg
theorem xJ:type_of% @Rat.le_of_mul_le_mul_right:= @Rat.le_of_mul_le_mul_right
theorem xK:type_of% @Rat.le_antisymm:= @Rat.le_antisymm
theorem xL:type_of% @Bool.not_eq_true':= @Bool.not_eq_true'
theorem zh:type_of% @Prod.mk.injEq:= @Prod.mk.injEq
theorem zi:type_of% @Nat.pos_of_ne_zero:= @Nat.pos_of_ne_zero
theorem zj:type_of% @Nat.pow_zero:= @Nat.pow_zero
theorem zk:type_of% @List.mem_or_eq_of_mem_set:= @List.mem_or_eq_of_mem_set
theorem zl:type_of% @Int.lt_trichotomy:= @Int.lt_trichotomy
theorem zm:type_of% @Nat.div_add_mod:= @Nat.div_add_mod
theorem zn:type_of% @Nat.mul_pos:= @Nat.mul_pos
theorem zo:type_of% @List.all_cons:= @List.all_cons
theorem zp:type_of% @Int.mul_add:= @Int.mul_add
theorem zq:type_of% @Int.le_of_lt:= @Int.le_of_lt
theorem zr:type_of% @List.getElem_range:= @List.getElem_range
theorem zt:type_of% @Array.getD_eq_getD_getElem?:= @Array.getD_eq_getD_getElem?
theorem zu:type_of% @List.length_pos_iff:= @List.length_pos_iff
theorem zv:type_of% @List.not_mem_nil:= @List.not_mem_nil
theorem Bh:type_of% @Array.getElem?_setIfInBounds:= @Array.getElem?_setIfInBounds
theorem Bi:type_of% @Nat.mul_add_mod:= @Nat.mul_add_mod
theorem Bj:type_of% @Array.getElem?_append_left:= @Array.getElem?_append_left
theorem Bk:type_of% @List.getElem?_drop:= @List.getElem?_drop
theorem Bl:type_of% @List.getD_cons_zero:= @List.getD_cons_zero
theorem Bm:type_of% @List.drop_of_length_le:= @List.drop_of_length_le
theorem Bn:type_of% @List.mem_replicate:= @List.mem_replicate
theorem Bo:type_of% @Array.mem_toList_iff:= @Array.mem_toList_iff
theorem Bp:type_of% @List.set_append_right:= @List.set_append_right
theorem Bq:type_of% @Bool.false_or:= @Bool.false_or
theorem Br:type_of% @Nat.le_of_dvd:= @Nat.le_of_dvd
theorem Bs:type_of% @Int.sub_zero:= @Int.sub_zero
theorem Bt:type_of% @List.getElem_replicate:= @List.getElem_replicate
theorem DR:type_of% @of_decide_eq_true:= @of_decide_eq_true
theorem DS:type_of% @Array.toArray_toList:= @Array.toArray_toList
theorem DT:type_of% @Array.getElem?_append:= @Array.getElem?_append
theorem DU:type_of% @List.getElem?_set:= @List.getElem?_set
theorem DV:type_of% @Nat.lt_trichotomy:= @Nat.lt_trichotomy
theorem DW:type_of% @Nat.div_lt_self:= @Nat.div_lt_self
theorem DX:type_of% @Nat.mul_ne_zero:= @Nat.mul_ne_zero
theorem DY:type_of% @Nat.gcd_dvd_right:= @Nat.gcd_dvd_right
theorem DZ:type_of% @List.mem_iff_getElem:= @List.mem_iff_getElem
theorem D0:type_of% @List.nodup_iff_pairwise_ne:= @List.nodup_iff_pairwise_ne
theorem D1:type_of% @Rat.add_le_add_left:= @Rat.add_le_add_left
theorem D2:type_of% @List.getElem_cons_succ:= @List.getElem_cons_succ
theorem D3:type_of% @Int.natCast_nonneg:= @Int.natCast_nonneg
theorem GV:type_of% @List.drop_eq_getElem_cons:= @List.drop_eq_getElem_cons
theorem GW:type_of% @List.dropWhile_cons_of_neg:= @List.dropWhile_cons_of_neg
theorem GX:type_of% @Int.mul_ediv_cancel_left:= @Int.mul_ediv_cancel_left
theorem GY:type_of% @decide_eq_false_iff_not:= @decide_eq_false_iff_not
theorem GZ:type_of% @Option.map_eq_some_iff:= @Option.map_eq_some_iff
theorem G0:type_of% @Classical.byContradiction:= @Classical.byContradiction
theorem G1:type_of% @Rat.mul_le_mul_of_nonneg_left:= @Rat.mul_le_mul_of_nonneg_left
theorem G2:type_of% @List.eq_of_mem_replicate:= @List.eq_of_mem_replicate
namespace Go.aj
mutual
inductive ak where
 |int (k:IntKind) (n:Int)
 |bool (b:Bool)
 |str (s:List UInt8)
 |nil
 |ro (c:Cells) (i len:Nat)
 |aC (h i len:Nat)
 |cK (c:Cells) (i j:Nat)
 |ptr (h i j:Nat)
 |pP
 |fn (f:FuncId) (cap:List ak)
 |pO
 |iface
 |oh
 |agg (l:List ak)
 |cn (l:List ak)
 |mp (h:Nat)
 |hr (ks vs:List ak)
 |any
inductive Cells where
 |ints (k:IntKind) (l:List Int)
 |strs (l:List (List UInt8))
 |box (l:List ak)
 |fn (n s:Nat) (f:Nat→Nat→ak)
 |mp (ks vs:List ak)
end
def Cells.len:Cells→Nat
 | .ints _ l=>l.length
 | .strs l=>l.length
 | .box _=>1
 | .fn n _ _=>n
 | .mp _ _=>0
def Cells.aD:Cells→Nat
 | .ints _ _=>1
 | .strs _=>1
 | .box l=>l.length
 | .fn _ s _=>s
 | .mp _ _=>0
def Cells.at:Cells→Nat→Nat→ak
 | .ints k l,i,_=> .int k (l.getD i 0)
 | .strs l,i,_=> .str (l.getD i [])
 | .box l,_,j=>l.getD j .any
 | .fn _ _ f,i,j=>f i j
 | .mp _ _,_,_=> .any
def Cells.b8:Cells→Nat×Cells
 | .mp ks vs=>(0,.mp ks vs)
 | .ints _ _=>(1,.strs [])
 | .strs _=>(1,.strs [])
 | .box l=>(l.length,.strs [])
 | .fn _ s _=>(s,.strs [])
theorem A8 {a b:Cells}(h:b.b8=a.b8):b.aD=a.aD:=by cases a<;>cases b<;>simp_all [Cells.b8,Cells.aD]
theorem agp {b:Cells}{ks vs:List ak}(h:b.b8=(Cells.mp ks vs).b8):b= .mp ks vs:=by cases b<;>simp_all [Cells.b8]
structure bl where
 ty:TypeId
 c:Cells
abbrev aZ:=List (Option bl)
abbrev Fr:=List (Nat×ak)
inductive bQ where
 |at (b s cap:Nat)
 |l5
def pr (s:List UInt8):Value:= .string ⟨s.toArray⟩
inductive bz (w:World)(S:Nat→Prop):(Nat→Option bQ)→ak→Value→Prop
 |int (σ k n):bz w S σ (.int k n) (.int k n)
 |bool (σ b):bz w S σ (.bool b) (.bool b)
 |str (σ s):bz w S σ (.str s) (pr s)
 |nil (σ):bz w S σ .nil (.slice none 0 0)
 |kq (σ c i a cap):bz w S σ (.ro c i 0) (.slice a 0 cap)
 |ro (σ c i len b o cap) (val:Nat→Nat→Value) (dq:S b) (hlen:len≤cap)
  (aw: ∀d j,d<len→j<c.aD→w.cell? ⟨b,o+d*c.aD+j,none⟩=some (val d j))
  (ai: ∀d j,d<len→j<c.aD→bz w S (fun _=>none) (c.at (i+d) j) (val d j)) (U: ∀d j,d<len→j<c.aD→(val d j).oneCell'=true):
  bz w S σ (.ro c i len) (.slice (some ⟨b,o,none⟩) len cap)
 |aC (σ h i len b s C cap) (bJ:σ h=some (.at b s C)) (hlen:len≤cap) (jX:i+cap=C):
  bz w S σ (.aC h i len) (.slice (some ⟨b,i*s,none⟩) len cap)
 |ih (σ h) (bJ:σ h=some .l5):bz w S σ (.aC h 0 0) (.slice none 0 0)
 |cK (σ c i j b o) (val:Nat→Value) (dq:S b)
  (aw: ∀e,j+e<c.aD→w.cell? ⟨b,o+e,none⟩=some (val e))
  (ai: ∀e,j+e<c.aD→bz w S (fun _=>none) (c.at i (j+e)) (val e)) (U: ∀e,j+e<c.aD→(val e).oneCell'=true):
  bz w S σ (.cK c i j) (.pointer (some ⟨b,o,none⟩))
 |ptr (σ h i j b s C) (bJ:σ h=some (.at b s C)):bz w S σ (.ptr h i j) (.pointer (some ⟨b,i*s+j,none⟩))
 |pP (σ):bz w S σ .pP (.pointer none)
 |fn (σ f cap) (vs:Array Value) (au:vs.size=cap.length) (ai: ∀i,i<cap.length→bz w S σ (cap.getD i .any) (vs.getD i undef)):
  bz w S σ (.fn f cap) (.func (.func f) #[] vs)
 |pO (σ):bz w S σ .pO .nilFunc
 |iface (σ t v):bz w S σ .iface (.iface t v)
 |oh (σ):bz w S σ .oh .nilIface
 |agg (σ l) (vs:Array Value) (au:vs.size=l.length) (ai: ∀i,i<l.length→bz w S σ (l.getD i .any) (vs.getD i undef)) (U: ∀i,i<l.length→(vs.getD i undef).oneCell'=true):
  bz w S σ (.agg l) (.agg vs)
 |cn (σ l) (vs:Array Value) (au:vs.size=l.length) (ai: ∀i,i<l.length→bz w S σ (l.getD i .any) (vs.getD i undef)):
  bz w S σ (.cn l) (.tuple vs)
 |mp (σ h b) (bJ:σ h=some (.at b 0 (maxLen+1))):bz w S σ (.mp h) (.map (some b))
 |hr (σ ks vs b es clock) (e:Nat→MapEntry) (dq:S b) (al:w.heap[b]? =some (.map es clock)) (aI:es.size=ks.length) (au:vs.length=ks.length) (hd:es.toList.Pairwise (fun x y=>x.key≠y.key))
  (he: ∀i,i<ks.length→es[i]? =some (e i)) (an: ∀i,i<ks.length→bz w S (fun _=>none) (ks.getD i .any) (e i).key) (ai: ∀i,i<ks.length→bz w S (fun _=>none) (vs.getD i .any) (e i).val):
  bz w S σ (.hr ks vs) (.map (some b))
 |any (σ v):bz w S σ .any v
theorem bz.mono {w w':World}{S ca:Nat→Prop}(dq: ∀b,S b→ca b)(al: ∀b,S b→w'.heap[b]? =w.heap[b]?){σ:Nat→Option bQ}{x:ak}{v:Value}(h:bz w S σ x v): ∀bC,(∀h B,σ h=some B→bC h=some B)→bz w' ca bC x v:=by
 have oa: ∀b o,S b→w'.cell? ⟨b,o,none⟩=w.cell? ⟨b,o,none⟩:=fun b o av=>World.cell?_of_block (al b av);induction h with
 |int=>intros;constructor
 |bool=>intros;constructor
 |str=>intros;constructor
 |nil=>intros;constructor
 |kq=>intros;constructor
 |ro σ c i len b o cap val e9 hlen aw ai U ba=>
  intro bC bJ;refine .ro _ _ _ _ _ _ _ val (dq _ e9) hlen (fun d j hd ae=>by rw [oa _ _ e9];exact aw d j hd ae) (fun d j hd ae=>ba d j hd ae _ (fun _ _ h=>h)) U
 |aC σ h i len b s C cap Ad hlen jX=>intro bC bJ;exact .aC _ _ _ _ _ _ _ _ (bJ _ _ Ad) hlen jX
 |ih σ h Ad=>intro bC bJ;exact .ih _ _ (bJ _ _ Ad)
 |cK σ c i j b o val e9 aw ai U ba=>
  intro bC bJ;exact .cK _ _ _ _ _ _ val (dq _ e9) (fun e he=>by rw [oa _ _ e9];exact aw e he) (fun e he=>ba e he _ (fun _ _ h=>h)) U
 |ptr σ h i j b s C Ad=>intro bC bJ;exact .ptr _ _ _ _ _ _ _ (bJ _ _ Ad)
 |pP=>intros;constructor
 |fn σ f cap vs au ai ba=>intro bC bJ;exact .fn _ _ _ _ au (fun i aa=>ba i aa _ bJ)
 |pO=>intros;constructor
 |iface=>intros;constructor
 |oh=>intros;constructor
 |agg σ l vs au ai U ba=>intro bC bJ;exact .agg _ _ _ au (fun i aa=>ba i aa _ bJ) U
 |cn σ l vs au ai ba=>intro bC bJ;exact .cn _ _ _ au (fun i aa=>ba i aa _ bJ)
 |mp σ h b Ad=>intro bC bJ;exact .mp _ _ _ (bJ _ _ Ad)
 |hr σ ks vs b es clock e e9 tu aI au hd he an ai MT MV=>
  intro bC bJ;exact .hr _ _ _ b es clock e (dq _ e9) (by rw [al _ e9];exact tu) aI au hd he (fun i aa=>MT i aa _ (fun _ _ h=>h)) (fun i aa=>MV i aa _ (fun _ _ h=>h))
 |any=>intros;constructor
inductive Lays (w:World)(S:Nat→Prop)(σ:Nat→Option bQ)(o:bl)(b:Nat)(cur:Array Value)(C:Nat):Prop
 |row (mk:Nat×Nat) (h:w.heap[b]? =some (.cells cur o.ty mk)) (hm:mk.2≤mk.1∨cur.size≤mk.1) (ed:C≤maxLen)
 |map (ks vs:List ak) (es:Array MapEntry) (clock:Nat) (aw:o.c= .mp ks vs) (ed:C=maxLen+1) (h:w.heap[b]? =some (.map es clock)) (aI:es.size=ks.length) (au:vs.length=ks.length) (hd:es.toList.Pairwise (fun x y=>x.key≠y.key))
  (he: ∀i,i<ks.length→ ∃e,es[i]? =some e∧bz w S σ (ks.getD i .any) e.key∧bz w S σ (vs.getD i .any) e.val)
theorem Lays.lt {w:World}{S:Nat→Prop}{σ:Nat→Option bQ}{o:bl}{b:Nat}{cur:Array Value}{C:Nat}(h:Lays w S σ o b cur C):b<w.heap.size:=by
 cases h with
 |row mk h=>exact (Array.getElem?_eq_some_iff.1 h).1
 |map ks vs es clock aw ed h=>exact (Array.getElem?_eq_some_iff.1 h).1
theorem Lays.mono {w w':World}{S ca:Nat→Prop}{σ bC:Nat→Option bQ}{o:bl}{b:Nat}{cur:Array Value}{C:Nat}(al:w'.heap[b]? =w.heap[b]?)(ai: ∀{x v},bz w S σ x v→bz w' ca bC x v)(h:Lays w S σ o b cur C):Lays w' ca bC o b cur C:=by
 cases h with
 |row mk h hm ed=>exact .row mk (by rw [al];exact h) hm ed
 |map ks vs es clock aw ed h aI au hd he=>exact .map ks vs es clock aw ed (by rw [al];exact h) aI au hd (fun i aa=>let ⟨e,aH,aJ,bR⟩:=he i aa;⟨e,aH,ai aJ,ai bR⟩)
theorem Lays.b8 {w:World}{S:Nat→Prop}{σ:Nat→Option bQ}{o o':bl}{b:Nat}{cur:Array Value}{C:Nat}(bu:o'.ty=o.ty)(an:o'.c.b8=o.c.b8)(h:Lays w S σ o b cur C):Lays w S σ o' b cur C:=by
 cases h with
 |row mk h hm ed=>exact .row mk (by rw [bu];exact h) hm ed
 |map ks vs es clock aw ed h aI au hd he=>exact .map ks vs es clock (agp (by rw [an,aw])) ed h aI au hd he
theorem Lays.cells {w:World}{S:Nat→Prop}{σ:Nat→Option bQ}{o:bl}{b:Nat}{cur:Array Value}{C:Nat}(h:Lays w S σ o b cur C)(av:o.c.aD≠0):
 ∃mk,w.heap[b]? =some (.cells cur o.ty mk)∧(mk.2≤mk.1∨cur.size≤mk.1)∧C≤maxLen:=by
 cases h with
 |row mk h hm ed=>exact ⟨mk,h,hm,ed⟩
 |map ks vs es clock aw=>rw [aw] at av;exact absurd rfl av
theorem Lays.jv {w:World}{S:Nat→Prop}{σ:Nat→Option bQ}{o:bl}{b:Nat}{cur:Array Value}{C:Nat}(h:Lays w S σ o b cur C)(ed:C≤maxLen):
 ∃mk,w.heap[b]? =some (.cells cur o.ty mk)∧(mk.2≤mk.1∨cur.size≤mk.1):=by
 cases h with
 |row mk h hm _=>exact ⟨mk,h,hm⟩
 |map ks vs es clock aw apY=>omega
structure lT (w:World)(S:Nat→Prop)(σ:Nat→Option bQ)(H:aZ):Prop where
 live: ∀h o,H[h]? =some (some o)→
  (σ h=some .l5∧o.c.len=0)∨
  ∃b C cur,σ h=some (.at b o.c.aD C)∧Lays w S σ o b cur C∧cur.size=C*o.c.aD∧C≤maxLen+1∧o.c.len≤C∧ ¬S b∧
   ∀i j,i<o.c.len→j<o.c.aD→ ∃v,cur[i*o.c.aD+j]? =some v∧bz w S σ (o.c.at i j) v∧v.oneCell'=true
 hJ: ∀h aS o o' b s C cy cL,H[h]? =some (some o)→H[aS]? =some (some o')→σ h=some (.at b s C)→σ aS=some (.at b cy cL)→h=aS
 small: ∀b,S b→b<w.heap.size
 ie: ∀h,H.length≤h→σ h=none
end Go.aj
namespace Go.aj
open Go.RowKit
theorem dv {a b:Nat}(h:a≠b):Nat.beq a b=false:=by
 cases al:Nat.beq a b with
 |false=>rfl
 |true=>exact absurd (pC al) h
def look (t:Nat):Fr→Option ak
 |[]=>none
 |(u,v)::r=>bif Nat.beq t u then some v else look t r
class bA where
 G:World→(Nat→Prop)→Prop
variable [bA]
structure Ctx where
 dM:World
 xq:Nat→Prop
 O:Nat→Prop
 qd:Nat→Option bQ
 fix:Nat→Prop
 R:ak→aZ→Prop
 ahS: ∀(w:World) (S:Nat→Prop),(∀b,xq b→S b)→dM.heap.size≤w.heap.size→(∀b,b<dM.heap.size→ ¬O b→w.heap[b]? =dM.heap[b]?)→bA.G w S
structure xo (c:Ctx)(w:World)(S:Nat→Prop)(σ:Nat→Option bQ)(H:aZ):Prop where
 os:w.os=c.dM.os
 output:w.output=c.dM.output
 tape:w.tape=c.dM.tape
 size:c.dM.heap.size≤w.heap.size
 block: ∀b,b<c.dM.heap.size→ ¬c.O b→w.heap[b]? =c.dM.heap[b]?
 hX: ∀b,c.xq b→S b
 e5: ∀b,S b→c.xq b∨c.O b∨c.dM.heap.size≤b
 fixed: ∀h,c.fix h→σ h=c.qd h
 jx: ∀h,c.fix h→h<H.length
 own: ∀h o b s C,H[h]? =some (some o)→σ h=some (.at b s C)→c.O b∨c.dM.heap.size≤b
structure cc (c:Ctx)(w:World)(a:Act)(σ:Nat→Option bQ)(S:Nat→Prop)(n:Nat)(fr:Fr)(H:aZ):Prop where
 ad:lT w S σ H
 bj:xo c w S σ H
 defers:a.defers=[]
 size:a.tmps.size=n
 fl: ∀t v,look t fr=some v→t<n∧bz w S σ v (a.tmps.getD t undef)
inductive eF where
 |code (c:Code)
 |sh (id:Nat)
 |scope
 |inv (G:Fr→aZ→Prop)
 |any (all:Array Oper) (fuel:Nat) (listed:Array Bool)
def lift (c:Ctx)(n:Nat)(Q:Exit→Fr→aZ→Prop):Exit→Act→World→Prop:=fun e a w=> ∃σ S fr H,cc c w a σ S n fr H∧Q e fr H
def GC (P:Program)(fr:Fr)(H:aZ):ResultVar→Option ak
 | .tmp t=>look t fr
 | .cell t ty=>
  match look t fr with
  |some (.ptr h 0 0)=>
   match H[h]? with
   |some (some o)=>
    match o.c with
    | .box l=>
     match P.underlying ty,P.info? ty with
     |some (.struct _),some i=>bif Nat.beq i.size l.length then some (.agg l) else none
     |some (.array _ _),some i=>bif Nat.beq i.size l.length then some (.agg l) else none
     |some (.struct _),none=>none
     |some (.array _ _),none=>none
     |some _,_=>bif Nat.beq 1 l.length then l[0]? else none
     |none,_=>none
    |_=>none
   |_=>none
  |_=>none
def ue (P:Program)(fr:Fr)(H:aZ):List ResultVar→Option (List ak)
 |[]=>some []
 |r::rs=>match GC P fr H r with
  |some v=>match ue P fr H rs with
   |some vs=>some (v::vs)
   |none=>none
  |none=>none
def gS:List ak→ak
 |[v]=>v
 |vs=> .cn vs
def eJ (P:Program)(fn:Func)(c:Ctx):List eF→Exit→Fr→aZ→Prop
 |[],e,fr,H=>(e= .normal∨e= .ret)∧ ∃vs,ue P fr H fn.results.toList=some vs∧c.R (gS vs) H
 | .code q9::k,.normal,fr,H=> ∀w a σ S,cc c w a σ S fn.ntmps fr H→q9.wp P (lift c fn.ntmps (eJ P fn c k)) a w
 | .code _::k,e,fr,H=>eJ P fn c k e fr H
 | .sh id::k,.exit uQ,fr,H=>bif Nat.beq uQ id then eJ P fn c k .normal fr H else eJ P fn c k (.exit uQ) fr H
 | .sh _::k,e,fr,H=>eJ P fn c k e fr H
 | .scope::k,e,fr,H=>match e with
  | .goto _=>False
  |e=>eJ P fn c k e fr H
 | .inv G::k,e,fr,H=>match e with
  | .normal=>G fr H
  |e=>eJ P fn c k e fr H
 | .any all fuel listed::k,e,fr,H=>match e with
  | .normal=> ∀w a σ S,cc c w a σ S fn.ntmps fr H→wpAny P .any all (lift c fn.ntmps (eJ P fn c k)) fuel listed a w
  |e=>eJ P fn c k e fr H
inductive M where
 |code (c:Code) (k:List eF)
 |ops (q:Bool) (all:Array Oper) (rest:List Oper) (k:List eF)
 |any (all:Array Oper) (fuel:Nat) (listed:Array Bool) (k:List eF)
 |post (e:Exit) (k:List eF)
def p2 (n:Nat):List Oper→Bool
 |[]=>true
 |o::r=>(match o.dst with|some d=>Nat.blt d n|none=>true) && p2 n r
def aj (P:Program)(fn:Func)(c:Ctx):M→Fr→aZ→Prop
 | .code q9 k,fr,H=> ∀w a σ S,cc c w a σ S fn.ntmps fr H→q9.wp P (lift c fn.ntmps (eJ P fn c k)) a w
 | .ops false all rest k,fr,H=>p2 fn.ntmps rest=true→ ∀w a σ S,cc c w a σ S fn.ntmps fr H→wpList P all (lift c fn.ntmps (eJ P fn c k)) rest a w
 | .ops true all rest k,fr,H=>p2 fn.ntmps rest=true→ ∀w a σ S,cc c w a σ S fn.ntmps fr H→
  wpQuiet P all (fun w'=> ∃m,w'=w.drewN m) (fun nn=> ∀w',(∃m,w'=w.drewN m)→lift c fn.ntmps (eJ P fn c k) .normal nn w') rest a
 | .any all fuel listed k,fr,H=> ∀w a σ S,cc c w a σ S fn.ntmps fr H→wpAny P .any all (lift c fn.ntmps (eJ P fn c k)) fuel listed a w
 | .post e k,fr,H=>eJ P fn c k e fr H
theorem alE {P:Program}{Q:Exit→Act→World→Prop}{a:Act}{w:World}{c:Code}{ι:Type}(b6:ι→Act→World→Prop)(y6:ι→Nat)(i0:ι)(h₀:b6 i0 a w)(round: ∀i a w,b6 i a w→c.wp P (Exit.then (fun nn w'=> ∃j,b6 j nn w'∧y6 j<y6 i) Q) a w):(Code.loop c).wp P Q a w:=by
 have bZ:= ‹bA›;intro b k cs;have key: ∀n i a w,y6 i=n→b6 i a w→
  ∃e nn w',Q e nn w'∧Arrives P (lone (b.at a (.code c:: .inLoop c::k)) cs w) b k cs e nn w':=by
  intro n;induction n using Nat.strongRecOn with
  |_ n ba=>
   intro i a w aI mo;obtain ⟨e,Bu,Cq,aB,uH⟩:=round i a w mo b (.inLoop c::k) cs;cases e with
   |normal=>
    obtain ⟨j,acQ,bD⟩:=aB;obtain ⟨abX,Z3,alc,afj,adp⟩:=ba (y6 j) (aI▸bD) j Bu Cq rfl acQ;exact ⟨abX,Z3,alc,afj,.of_steps (Steps.trans uH (.one step_inLoop)) adp⟩
   |exit id=>exact ⟨_,Bu,Cq,aB,.pass (x:= .inLoop c) rfl (fun _ _=> .inl bX) uH⟩
   |goto l=>exact ⟨_,Bu,Cq,aB,.pass (x:= .inLoop c) rfl (fun _ _=> .inl bX) uH⟩
   |ret=>exact ⟨_,Bu,Cq,aB,.pass (x:= .inLoop c) rfl (fun _ _=> .inl bX) uH⟩
   |panic fB=>exact ⟨_,Bu,Cq,aB,.pass (x:= .inLoop c) rfl (fun _ _=> .inl bX) uH⟩
   |outgrown=>exact ⟨_,Bu,Cq,aB,.pass (x:= .inLoop c) rfl (fun _ _=> .inl bX) uH⟩
 obtain ⟨e,nn,w',aB,uH⟩:=key _ i0 a w rfl h₀;exact ⟨e,nn,w',aB,.of_steps (.one step_loop) uH⟩
section
variable {P:Program}{fn:Func}{c:Ctx}{fr:Fr}{H:aZ}{k:List eF}
theorem dh {x y:Code}(h:aj P fn c (.code x (.code y::k)) fr H):aj P fn c (.code (.seq x y) k) fr H:=by
 intro w a σ S ad;refine wp_seq (wp_mono (h w a σ S ad) ?_);rintro e nn w' ⟨bC,ca,iw,bK,fV,aF⟩;cases e with
 |normal=>exact aF w' nn bC ca fV
 |exit id=>exact ⟨bC,ca,iw,bK,fV,aF⟩
 |goto l=>exact ⟨bC,ca,iw,bK,fV,aF⟩
 |ret=>exact ⟨bC,ca,iw,bK,fV,aF⟩
 |panic fB=>exact ⟨bC,ca,iw,bK,fV,aF⟩
 |outgrown=>exact ⟨bC,ca,iw,bK,fV,aF⟩
theorem iC (h:aj P fn c (.post .normal k) fr H):aj P fn c (.code .skip k) fr H:=
 fun _ _ _ _ ad=>wp_skip ⟨_,_,_,_,ad,h⟩
theorem qO {id:Nat}(h:aj P fn c (.post (.exit id) k) fr H):aj P fn c (.code (.exit id) k) fr H:=
 fun _ _ _ _ ad=>wp_exit ⟨_,_,_,_,ad,h⟩
theorem mb (h:aj P fn c (.post .ret k) fr H):aj P fn c (.code .ret k) fr H:=
 fun _ _ _ _ ad=>wp_ret ⟨_,_,_,_,ad,h⟩
theorem fD {id:Nat}{x:Code}(h:aj P fn c (.code x (.sh id::k)) fr H):aj P fn c (.code (.block id x) k) fr H:=by
 intro w a σ S ad;refine wp_block (wp_mono (h w a σ S ad) ?_);rintro e nn w' ⟨bC,ca,iw,bK,fV,aF⟩;cases e with
 |exit uQ=>
  simp only [Exit.inBlock];by_cases he:uQ=id
  ·subst he;have sw:eJ P fn c k .normal iw bK:=by simpa [eJ] using aF
   simp only [gf];exact ⟨bC,ca,iw,bK,fV,sw⟩
  ·have sw:eJ P fn c k (.exit uQ) iw bK:=by have al:Nat.beq uQ id=false:=dv he;simpa [eJ,al] using aF
   simp only [he,hH];exact ⟨bC,ca,iw,bK,fV,sw⟩
 |normal=>exact ⟨bC,ca,iw,bK,fV,aF⟩
 |goto l=>exact ⟨bC,ca,iw,bK,fV,aF⟩
 |ret=>exact ⟨bC,ca,iw,bK,fV,aF⟩
 |panic fB=>exact ⟨bC,ca,iw,bK,fV,aF⟩
 |outgrown=>exact ⟨bC,ca,iw,bK,fV,aF⟩
theorem cc.drewN {w:World}{a:Act}{σ:Nat→Option bQ}{S:Nat→Prop}{n m:Nat}(h:cc c w a σ S n fr H):cc c (w.drewN m) a σ S n fr H:=by
 have ai: ∀{bC:Nat→Option bQ} {x v},bz w S bC x v→bz (w.drewN m) S bC x v:=fun h=>h.mono (w:=w) (w':=w.drewN m) (fun _ h=>h) (fun _ _=>rfl) _ (fun _ _ h=>h);refine ⟨⟨fun aS o ah=> ?_,h.ad.hJ,h.ad.small,h.ad.ie⟩,⟨h.bj.os,h.bj.output,h.bj.tape,h.bj.size,h.bj.block,h.bj.hX,h.bj.e5,h.bj.fixed,h.bj.jx,h.bj.own⟩,h.defers,h.size,fun t v au=>⟨(h.fl t v au).1,ai (h.fl t v au).2⟩⟩;rcases h.ad.live aS o ah with aI|⟨b,C,cur,U,ab,ay,bf,bL,dz,fx⟩
 ·exact .inl aI
 ·exact .inr ⟨b,C,cur,U,ab.mono (w:=w) (w':=w.drewN m) I ai,ay,bf,bL,dz,fun i j aa ae=>let ⟨v,gy,a2,a3⟩:=fx i j aa ae;⟨v,gy,ai a2,a3⟩⟩
theorem Ax {id:Nat}{l:List Oper}(hm:P.follows .mixedOrders=true)(ck:Region.lexB .any l.toArray=true)(hd:p2 fn.ntmps l=true)(h:aj P fn c (.ops true l.toArray l k) fr H):aj P fn c (.code (.region id l.toArray true) k) fr H:=
 fun w a σ S ad=>wp_region_quiet_lit hm ck (h hd w a σ S ad)
theorem c5 {id:Nat}{l:List Oper}(hd:p2 fn.ntmps l=true)(h:aj P fn c (.ops false l.toArray l k) fr H):aj P fn c (.code (.region id l.toArray false) k) fr H:=
 fun w a σ S ad=>wp_region_list (by simpa using h hd w a σ S ad)
theorem cR {q:Bool}{all:Array Oper}(h:aj P fn c (.post .normal k) fr H):aj P fn c (.ops q all [] k) fr H:=by
 cases q with
 |false=>exact fun _ _ _ _ _ ad=>wpList_nil ⟨_,_,_,_,ad,h⟩
 |true=>exact fun _ w a σ S ad=>wpQuiet_nil (fun w' ⟨m,hw⟩=>⟨σ,S,_,_,hw▸ad.drewN,h⟩)
theorem b0 {x:Code}(h:aj P fn c (.code x k) fr H):aj P fn c (.post .normal (.code x::k)) fr H:=h
theorem j2 {id:Nat}(h:aj P fn c (.post .normal k) fr H):aj P fn c (.post .normal (.sh id::k)) fr H:=h
theorem b4 {G:Fr→aZ→Prop}(h:G fr H):aj P fn c (.post .normal (.inv G::k)) fr H:=h
theorem qJ {x:Code}{id:Nat}(h:aj P fn c (.post (.exit id) k) fr H):aj P fn c (.post (.exit id) (.code x::k)) fr H:=h
theorem rz {G:Fr→aZ→Prop}{id:Nat}(h:aj P fn c (.post (.exit id) k) fr H):aj P fn c (.post (.exit id) (.inv G::k)) fr H:=h
theorem qK {id:Nat}(h:aj P fn c (.post .normal k) fr H):aj P fn c (.post (.exit id) (.sh id::k)) fr H:=by show eJ P fn c _ _ _ _;simp only [eJ,pD,lU];exact h
theorem Vp {id uQ:Nat}(cd:Nat.beq uQ id=false)(h:aj P fn c (.post (.exit uQ) k) fr H):aj P fn c (.post (.exit uQ) (.sh id::k)) fr H:=by show eJ P fn c _ _ _ _;simp only [eJ,cd,oF];exact h
theorem Cz {x:Code}(h:aj P fn c (.post .ret k) fr H):aj P fn c (.post .ret (.code x::k)) fr H:=h
theorem amL {id:Nat}(h:aj P fn c (.post .ret k) fr H):aj P fn c (.post .ret (.sh id::k)) fr H:=h
theorem amM {G:Fr→aZ→Prop}(h:aj P fn c (.post .ret k) fr H):aj P fn c (.post .ret (.inv G::k)) fr H:=h
theorem aX {vs:List ak}{R:ak→aZ→Prop}(aq:c.R=R)(ai:ue P fr H fn.results.toList=some vs)(h:R (gS vs) H):aj P fn c (.post .ret []) fr H:=
 ⟨.inr rfl,vs,ai,aq▸h⟩
theorem QW {vs:List ak}{R:ak→aZ→Prop}(aq:c.R=R)(ai:ue P fr H fn.results.toList=some vs)(h:R (gS vs) H):aj P fn c (.post .normal []) fr H:=
 ⟨.inl rfl,vs,ai,aq▸h⟩
def yn:Value→Option ak
 | .int k n=>some (.int k n)
 | .bool b=>some (.bool b)
 | .string s=>some (.str s.data.toList)
 | .slice none 0 0=>some .nil
 | .pointer none=>some .pP
 | .nilFunc=>some .pO
 | .nilIface=>some .oh
 |_=>none
def Fe:List Value→Option (List ak)
 |[]=>some []
 |v::r=>match yn v with
  |some a=>match Fe r with
   |some l=>some (a::l)
   |none=>none
  |none=>none
def xM:Value→Option ak
 | .agg cs=>match Fe cs.toList with
  |some l=>some (.agg l)
  |none=>none
 |v=>yn v
def bG (fr:Fr):Operand→Option ak
 | .tmp t=>look t fr
 | .const v=>xM v
 | .global _=>none
 | .func f=>some (.fn f [])
theorem KE {w:World}{S:Nat→Prop}{σ:Nat→Option bQ}{x:Value}{v:ak}(h:yn x=some v):bz w S σ v x∧x.oneCell'=true:=by
 have bZ:= ‹bA›;cases x with
 |int k n=>cases h;exact ⟨.int _ _ _,rfl⟩
 |bool b=>cases h;exact ⟨.bool _ _,rfl⟩
 |string s=>cases h;exact ⟨bz.str σ s.data.toList,rfl⟩
 |slice ia len cap=>
  cases ia with
  |none=>
   cases len with
   |zero=>cases cap with
    |zero=>cases h;exact ⟨.nil _,rfl⟩
    |succ _=>cases h
   |succ _=>cases h
  |some _=>cases h
 |pointer p=>cases p with
  |none=>cases h;exact ⟨.pP _,rfl⟩
  |some _=>cases h
 |nilFunc=>cases h;exact ⟨.pO _,rfl⟩
 |nilIface=>cases h;exact ⟨.oh _,rfl⟩
 |_=>cases h
theorem Zp {w:World}{S:Nat→Prop}{σ:Nat→Option bQ}: ∀{cs:List Value} {l:List ak},Fe cs=some l→cs.length=l.length∧ ∀i,i<l.length→bz w S σ (l.getD i .any) (cs.getD i undef)∧(cs.getD i undef).oneCell'=true
 |[],l,h=>by simp [Fe] at h;subst h;exact ⟨rfl,fun i aa=>by simp at aa⟩
 |v::r,l,h=>by
  simp only [Fe] at h;split at h
  ·rename_i a a8;split at h
   ·rename_i q aB;simp only [dC] at h;subst h;obtain ⟨i1,i2⟩:=Zp (w:=w) (S:=S) (σ:=σ) aB;refine ⟨by simp [i1],fun i aa=> ?_⟩;cases i with
    |zero=>exact KE a8
    |succ i=>simpa using i2 i (by simpa using aa)
   ·cases h
  ·cases h
theorem akS {w:World}{S:Nat→Prop}{σ:Nat→Option bQ}{x:Value}{v:ak}(h:xM x=some v):bz w S σ v x:=by
 unfold xM at h;split at h
 ·rename_i cs;split at h
  ·rename_i l au;simp only [dC] at h;subst h;obtain ⟨i1,i2⟩:=Zp (w:=w) (S:=S) (σ:=σ) au;have av:cs.size=l.length:=by simpa using i1
   have e: ∀i,i<l.length→cs.toList.getD i undef=cs.getD i undef:=fun i aa=>by simp [List.getD,Array.getD,av,aa]
   exact .agg _ _ _ av (fun i aa=>by rw [←e i aa];exact (i2 i aa).1) (fun i aa=>by rw [←e i aa];exact (i2 i aa).2)
  ·cases h
 ·exact (KE h).1
theorem cc.dL {w:World}{a:Act}{σ:Nat→Option bQ}{S:Nat→Prop}{n:Nat}(h:cc c w a σ S n fr H){o:Operand}{v:ak}(ai:aj.bG fr o=some v):bz w S σ v (a.eval o):=by
 cases o with
 |tmp t=>exact (h.fl t v ai).2
 |const x=>exact akS ai
 |global g=>cases ai
 |func f=>cases ai;exact .fn _ _ _ #[] rfl (fun i aa=>by simp at aa)
theorem cc.put {w:World}{a:Act}{σ:Nat→Option bQ}{S:Nat→Prop}{n d:Nat}{v:ak}{x:Value}(h:cc c w a σ S n fr H)(ai:bz w S σ v x)(hd:d<n):cc c w (a.put (some d) x) σ S n ((d,v)::fr) H:=by
 refine ⟨h.ad,h.bj,h.defers,by simpa [Act.put] using h.size,fun t y au=> ?_⟩;simp only [look] at au;by_cases he:t=d
 ·subst he;simp only [pD,lU,dC] at au;subst au;refine ⟨hd,?_⟩;have:t<a.tmps.size:=by rw [h.size];exact hd
  simpa [Act.put,this] using ai
 ·simp only [dv he,oF] at au;obtain ⟨U,ab⟩:=h.fl t y au;refine ⟨U,?_⟩;have: ¬d=t:=fun e=>he e.symm;simpa [Act.put,Bh,this] using ab
def b1 (ind:Bool)(P:Program)(fn:Func)(c:Ctx)(fr:Fr)(H:aZ)(o:Oper)(v:ak):Prop:=
 ∀w a σ S,cc c w a σ S fn.ntmps fr H→ ∃x,bz w S σ v x∧ ∀w',(ind=true∨w'.heap=w.heap)→(execOp a.eval o).run P w'= .ok (.value x) w'
theorem tR {n:Nat}{o:Oper}{r:List Oper}(h:p2 n (o::r)=true):(∀d,o.dst=some d→d<n)∧p2 n r=true:=by have bZ:= ‹bA›;simp only [p2,eb] at h;refine ⟨fun d hd=> ?_,h.2⟩;have U:=h.1;rw [hd] at U;exact iv U
theorem ao {q:Bool}{all:Array Oper}{d:Nat}{op:Op}{ty:TypeId}{pos:String}{after:Array Edge}{rest:List Oper}{v:ak}(qv:b1 false P fn c fr H ⟨some d,op,ty,pos,after,none⟩ v)(h:aj P fn c (.ops q all rest k) ((d,v)::fr) H):aj P fn c (.ops q all (⟨some d,op,ty,pos,after,none⟩::rest) k) fr H:=by
 cases q with
 |false=>
  intro hd w a σ S ad;obtain ⟨jg,kl⟩:=tR hd;obtain ⟨x,ar,dR⟩:=qv w a σ S ad;refine wpList_step (fun K dH=> ?_);simp only [Region.wanted,gf];unfold Oper.wp;rw [dR w (.inr rfl)];exact dH _ _ (h kl w _ σ S (ad.put ar (jg d I)))
 |true=>
  intro hd w a σ S ad;obtain ⟨jg,kl⟩:=tR hd;obtain ⟨x,ar,dR⟩:=qv w a σ S ad;refine wpQuiet_step (fun K dH=> ?_);simp only [Region.wanted,gf];refine ⟨x,fun w' hw=> ?_,dH _ (h kl w _ σ S (ad.put ar (jg d I)))⟩;obtain ⟨m,rfl⟩:=hw;unfold Oper.quietAt;rw [dR (w.drewN m) (.inr rfl)];exact ⟨I,I⟩
theorem CG {fB:List PanicEntry}: ∀(k:List eF),eJ P fn c k (.panic fB) fr H→False
 |[],h=>by rcases h with ⟨h|h,_⟩<;>cases h
 | .code _::k,h=>CG k h
 | .sh _::k,h=>CG k h
 | .scope::k,h=>CG k h
 | .inv _::k,h=>CG k h
 | .any _ _ _::k,h=>CG k h
theorem eg {id:Nat}{l:List Oper}(hm:P.follows .mixedOrders=true)(h:aj P fn c (.any l.toArray l.length (Array.replicate l.length false) k) fr H):aj P fn c (.code (.region id l.toArray true) k) fr H:=by intro w a σ S ad;refine wp_region_any hm ?_;have ab:=h (w.drewN 1) a σ S ad.drewN;have e:l.toArray.size=l.length:=bX;rw [e];exact ab
theorem dX {all:Array Oper}{fuel:Nat}{listed:Array Bool}(ad:Region.ready .any all listed=[])(h:aj P fn c (.post .normal k) fr H):aj P fn c (.any all fuel listed k) fr H:=by
 intro w a σ S jh;cases fuel with
 |zero=>exact ⟨ad,_,_,_,_,jh,h⟩
 |succ f=>
  refine ⟨fun _=>⟨_,_,_,_,jh,h⟩,fun i aa=> ?_⟩;rw [ad] at aa;cases aa
theorem bH {all:Array Oper}{fuel:Nat}{listed Ce:Array Bool}(i:Nat){d:Nat}{op:Op}{ty:TypeId}{pos:String}{after:Array Edge}{v:ak}(aa:all[i]? =some ⟨some d,op,ty,pos,after,none⟩)(afp:Region.noSelect all=true)(afk:(Region.ready .any all listed).contains i=true)(L2:Region.free .any all listed i=true)(hd:Nat.blt d fn.ntmps=true)(qv:b1 true P fn c fr H ⟨some d,op,ty,pos,after,none⟩ v)(au:listed.setIfInBounds i true=Ce)(h:aj P fn c (.any all fuel Ce k) ((d,v)::fr) H):aj P fn c (.any all (fuel+1) listed k) fr H:=by
 intro w a σ S ad;subst au;obtain ⟨x,ar,dR⟩:=qv w a σ S ad;refine wpAny_first aa (Region.noSelect_spec afp) ?_ fuel listed a w (Region.free_spec aa L2) (by simpa using afk) (v:=x) ?_ (h w _ σ S (ad.put ar (iv hd)))
 ·rintro fB nn w' ⟨_,_,_,_,_,aF⟩;exact (CG _ aF).elim
 ·exact .inl ⟨I,fun w'=>dR w' (.inl I)⟩
def GM (P:Program)(fn:Func)(c:Ctx)(all:Array Oper)(fuel:Nat)(listed:Array Bool)(k:List eF)(fr:Fr)(H:aZ):List Nat→Prop
 |[]=>True
 |i::r=>(∀o,all[i]? =some o→aj P fn c (.ops false all [o] (.any all fuel (listed.setIfInBounds i true)::k)) fr H)∧GM P fn c all fuel listed k fr H r
theorem ZL {all:Array Oper}{fuel:Nat}{listed:Array Bool}{is:List Nat}(h:GM P fn c all fuel listed k fr H is){i:Nat}(aa:i∈is){o:Oper}(ah:all[i]? =some o):aj P fn c (.ops false all [o] (.any all fuel (listed.setIfInBounds i true)::k)) fr H:=by
 induction is with
 |nil=>cases aa
 |cons j r ba=>
  rcases fS.1 aa with rfl|aa
  ·exact h.1 o ah
  ·exact ba h.2 aa
theorem apG {o:Oper}{a:Act}{K kE:Act→World→Prop}{Q K0:Exit→Act→World→Prop}(dH: ∀a w,K a w→kE a w)(aF: ∀fB a w,Q (.panic fB) a w→K0 (.panic fB) a w)(ah:LetsOut Q→LetsOut K0){r:Result Next}(h:o.upon P a K Q r):o.upon P a kE K0 r:=by
 have bZ:= ‹bA›;unfold Oper.upon at*;split at h
 ·exact dH _ _ h
 ·exact dH _ _ h
 ·exact dH _ _ h
 ·refine Calls.mono h fun e akU he=> ?_;cases e with
  |returned v=>exact dH _ _ he
  |panicked fB=>exact aF _ _ _ he
  |outgrown=>exact ah he
 ·exact Rows.mono h fun v akU he=>dH _ _ he
 ·exact aF _ _ _ h
 ·exact h.elim
theorem tJ {all:Array Oper}{fuel:Nat}{listed:Array Bool}{is:List Nat}(ad:Region.ready .any all listed=is)(cd:is≠[])(hd:p2 fn.ntmps all.toList=true)(h:GM P fn c all fuel listed k fr H is):aj P fn c (.any all (fuel+1) listed k) fr H:=by
 intro w a σ S jh;refine ⟨fun aU=>absurd (ad▸aU) cd,fun i aa=> ?_⟩;rw [ad] at aa;unfold wpOp;split
 ·rename_i aI;rw [←ad] at aa;obtain ⟨_,o,ah,_⟩:=mem_ready.1 aa;rw [aI] at ah;cases ah
 ·rename_i o ah;have U:=ZL h aa ah;have jg:p2 fn.ntmps [o]=true:=by
   have eH:o∈all.toList:=by simpa using Array.mem_of_getElem? ah
   clear U h;generalize all.toList=l at hd eH;induction l with
   |nil=>cases eH
   |cons x r ba=>
    simp only [p2,eb] at hd⊢;rcases fS.1 eH with rfl|hm
    ·exact ⟨hd.1,trivial⟩
    ·have:=ba hd.2 hm;simp only [p2,eb] at this;exact this
  have ab:=U jg w a σ S jh;have B0: ∀a w,lift c fn.ntmps (eJ P fn c (.any all fuel (listed.setIfInBounds i true)::k)) .normal a w→wpAny P .any all (lift c fn.ntmps (eJ P fn c k)) fuel (listed.setIfInBounds i true) a w:=by rintro a w ⟨bC,ca,iw,bK,fV,aF⟩;exact aF w a bC ca fV
  unfold wpList at ab;split
  ·rename_i hw;rw [aA hw] at ab;rcases ab with ab|⟨a8,au⟩
   ·left;unfold Oper.wp at*;exact apG B0 (fun _ _ _ h=>h) (fun h=>h) ab
   ·exact .inr ⟨a8,au⟩
  ·rename_i hw;rw [ax hw] at ab;exact B0 _ _ ab
theorem lJ {all:Array Oper}{fuel:Nat}{listed:Array Bool}(h:aj P fn c (.any all fuel listed k) fr H):aj P fn c (.post .normal (.any all fuel listed::k)) fr H:=h
def qW (all:Array Oper)(j:Nat):Option Nat:=(all[j]?).bind (·.dst)
theorem JH {w:World}{a:Act}{σ:Nat→Option bQ}{S:Nat→Prop}{n:Nat}(ad:cc c w a σ S n fr H){all:Array Oper}{d:Option Nat}{op:Op}{ty:TypeId}{pos:String}{after:Array Edge}{j t:Nat}{p b:Bool}(a1:qW all j=some t)(al:look t fr=some (.bool b)):Region.wanted ⟨d,op,ty,pos,after,some (j,p)⟩ (yielded all a.tmps)=(b==p):=by
 obtain ⟨U,ab⟩:=ad.fl t _ al;have ay:t<a.tmps.size:=by rw [ad.size];exact U
 generalize bw:a.tmps.getD t undef=z at ab;cases ab;have bf:a.tmps[t]? =some (.bool b):=by simp only [Array.getD,ay,vL] at bw;simp only [Array.getElem?_eq_getElem ay];exact congrArg some bw
 unfold qW at a1;simp only [Region.wanted,yielded,a1,Option.bind_some,bf];cases b<;>cases p<;>rfl
theorem kR {q:Bool}{all:Array Oper}{d:Option Nat}{op:Op}{ty:TypeId}{pos:String}{after:Array Edge}{rest:List Oper}{j t:Nat}{p:Bool}(a1:qW all j=some t)(al:look t fr=some (.bool p))(h:aj P fn c (.ops q all (⟨d,op,ty,pos,after,none⟩::rest) k) fr H):aj P fn c (.ops q all (⟨d,op,ty,pos,after,some (j,p)⟩::rest) k) fr H:=by
 cases q with
 |false=>
  intro hd w a σ S ad;have U:=h hd w a σ S ad;simp only [wpList,JH ad a1 al,beq_self_eq_true,gf];simp only [wpList,Region.wanted,gf] at U;exact U
 |true=>
  intro hd w a σ S ad;have U:=h hd w a σ S ad;simp only [wpQuiet,JH ad a1 al,beq_self_eq_true,gf];simp only [wpQuiet,Region.wanted,gf] at U;exact U
theorem cc.dup {w:World}{a:Act}{σ:Nat→Option bQ}{S:Nat→Prop}{n t:Nat}{v:ak}(h:cc c w a σ S n fr H)(au:look t fr=some v):cc c w a σ S n ((t,v)::fr) H:=by
 refine ⟨h.ad,h.bj,h.defers,h.size,fun u y a1=> ?_⟩;simp only [look] at a1;by_cases he:u=t
 ·subst he;simp only [pD,lU,dC] at a1;subst a1;exact h.fl u v au
 ·simp only [dv he,oF] at a1;exact h.fl u y a1
theorem Z2 {q:Bool}{all:Array Oper}{rest:List Oper}(t:Nat){b:Bool}(al:look t fr=some (.bool b))(bu:b=true→aj P fn c (.ops q all rest k) ((t,.bool true)::fr) H)(aQ:b=false→aj P fn c (.ops q all rest k) ((t,.bool false)::fr) H):aj P fn c (.ops q all rest k) fr H:=by
 cases b with
 |true=>cases q with
  |true=>exact fun hd w a σ S ad=>bu rfl hd w a σ S (ad.dup al)
  |false=>exact fun hd w a σ S ad=>bu rfl hd w a σ S (ad.dup al)
 |false=>cases q with
  |true=>exact fun hd w a σ S ad=>aQ rfl hd w a σ S (ad.dup al)
  |false=>exact fun hd w a σ S ad=>aQ rfl hd w a σ S (ad.dup al)
theorem alG {q:Bool}{all:Array Oper}{rest:List Oper}(t:Nat){p:Prop}{_:Decidable p}(al:look t fr=some (.bool (decide p)))(bu:p→aj P fn c (.ops q all rest k) ((t,.bool true)::fr) H)(aQ: ¬p→aj P fn c (.ops q all rest k) ((t,.bool false)::fr) H):aj P fn c (.ops q all rest k) fr H:=
 Z2 t al (fun h=>bu (DR h)) (fun h=>aQ (of_decide_eq_false h))
theorem rv {o:Operand}{x y:Code}(aw:bG fr o=some (.bool true))(h:aj P fn c (.code x k) fr H):aj P fn c (.code (.cond o x y) k) fr H:=by intro w a σ S ad;have:=ad.dL aw;generalize bw:a.eval o=z at this;cases this;exact wp_cond_true bw (h w a σ S ad)
theorem ot {o:Operand}{x y:Code}(aw:bG fr o=some (.bool false))(h:aj P fn c (.code y k) fr H):aj P fn c (.code (.cond o x y) k) fr H:=by intro w a σ S ad;have:=ad.dL aw;generalize bw:a.eval o=z at this;cases this;exact wp_cond_false bw (h w a σ S ad)
theorem tV {o:Operand}{x y:Code}{b:Bool}(aw:bG fr o=some (.bool b))(bu:b=true→aj P fn c (.code x k) fr H)(aQ:b=false→aj P fn c (.code y k) fr H):aj P fn c (.code (.cond o x y) k) fr H:=by
 cases b
 ·exact ot aw (aQ I)
 ·exact rv aw (bu I)
theorem bm {o:Operand}{x y:Code}{p:Prop}{_:Decidable p}(aw:bG fr o=some (.bool (decide p)))(bu:p→aj P fn c (.code x k) fr H)(aQ: ¬p→aj P fn c (.code y k) fr H):aj P fn c (.code (.cond o x y) k) fr H:=
 tV aw (fun h=>bu (DR h)) (fun h=>aQ (of_decide_eq_false h))
def jb (fr:Fr):List (Nat×ak)→Prop
 |[]=>True
 |(t,v)::r=>look t fr=some v∧jb fr r
theorem Fz {fr L:Fr}{t:Nat}{v:ak}(h:jb fr L)(au:look t L=some v):look t fr=some v:=by
 have bZ:= ‹bA›;induction L with
 |nil=>simp [look] at au
 |cons p r ba=>
  obtain ⟨u,x⟩:=p;obtain ⟨U,ab⟩:=h;simp only [look] at au;by_cases he:t=u
  ·subst he;simp at au;subst au;exact U
  ·have al:Nat.beq t u=false:=dv he;simp [al] at au;exact ba ab au
theorem cc.weaken {w:World}{a:Act}{σ:Nat→Option bQ}{S:Nat→Prop}{n:Nat}{L:Fr}(h:cc c w a σ S n fr H)(an:jb fr L):cc c w a σ S n L H:=
 ⟨h.ad,h.bj,h.defers,h.size,fun t v au=>h.fl t v (Fz an au)⟩
theorem cp {ι:Type}{x:Code}(uS:ι→Fr)(aF:ι→aZ)(b6:ι→Prop)(y6:ι→Nat)(i0:ι)(aU:jb fr (uS i0)∧H=aF i0∧b6 i0)(round: ∀i,b6 i→aj P fn c (.code x (.inv (fun iw bK=> ∃j,b6 j∧y6 j<y6 i∧jb iw (uS j)∧bK=aF j)::k)) (uS i) (aF i)):
 aj P fn c (.code (.loop x) k) fr H:=by
 intro w a σ S ad;refine alE (c:=x) (fun j a w=>b6 j∧ ∃σ S,cc c w a σ S fn.ntmps (uS j) (aF j)) y6 i0 ⟨aU.2.2,σ,S,?_⟩ ?_
 ·have:=ad.weaken aU.1;rw [aU.2.1] at this;exact this
 ·rintro i a w ⟨aa,σ,S,ad⟩;refine wp_mono (round i aa w a σ S ad) ?_;rintro e nn w' ⟨bC,ca,iw,bK,fV,sw⟩;cases e with
  |normal=>
   obtain ⟨j,ae,hm,an,rfl⟩:=sw;exact ⟨j,⟨ae,bC,ca,fV.weaken an⟩,hm⟩
  |exit id=>exact ⟨bC,ca,iw,bK,fV,sw⟩
  |goto l=>exact ⟨bC,ca,iw,bK,fV,sw⟩
  |ret=>exact ⟨bC,ca,iw,bK,fV,sw⟩
  |panic fB=>exact ⟨bC,ca,iw,bK,fV,sw⟩
  |outgrown=>exact ⟨bC,ca,iw,bK,fV,sw⟩
end
end Go.aj
namespace Go.aj
variable [bA]
open Go.RowKit
section
variable {ind:Bool}{P:Program}{fn:Func}{c:Ctx}{fr:Fr}{H:aZ}
theorem cc.ff {w:World}{a:Act}{σ:Nat→Option bQ}{S:Nat→Prop}{n:Nat}(h:cc c w a σ S n fr H){o:Operand}{k:IntKind}{x:Int}(ai:bG fr o=some (.int k x)):a.eval o= .int k x:=by have:=h.dL ai;generalize a.eval o=z at this;cases this;rfl
theorem cc.BA {w:World}{a:Act}{σ:Nat→Option bQ}{S:Nat→Prop}{n:Nat}(h:cc c w a σ S n fr H){o:Operand}{x:Bool}(ai:bG fr o=some (.bool x)):a.eval o= .bool x:=by have:=h.dL ai;generalize a.eval o=z at this;cases this;rfl
theorem cc.v8 {w:World}{a:Act}{σ:Nat→Option bQ}{S:Nat→Prop}{n:Nat}(h:cc c w a σ S n fr H){o:Operand}{x:List UInt8}(ai:bG fr o=some (.str x)):a.eval o=pr x:=by have:=h.dL ai;generalize a.eval o=z at this;cases this;rfl
variable {d:Option Nat}{ty:TypeId}{pos:String}{after:Array Edge}{g:Option (Nat×Bool)}
theorem Gm (s:List UInt8):(⟨s.toArray⟩:ByteArray).size=s.length:=by have bZ:= ‹bA›;show s.toArray.size=_;simp
theorem bE {x:Operand}{v:ak}(ar:bG fr x=some v):b1 ind P fn c fr H ⟨d,.move x,ty,pos,after,g⟩ v:=
 fun _ a _ _ ad=>⟨a.eval x,ad.dL ar,fun _ _=>rfl⟩
theorem du {x:Operand}{v:ak}(ar:bG fr x=some v):b1 ind P fn c fr H ⟨d,.assign x,ty,pos,after,g⟩ v:=
 fun _ a _ _ ad=>⟨a.eval x,ad.dL ar,fun _ _=>rfl⟩
theorem lO {x y z:Operand}{b:Bool}{v:ak}(ar:bG fr x=some (.bool b))(ai:(bif b then bG fr y else bG fr z)=some v):b1 ind P fn c fr H ⟨d,.pick x y z,ty,pos,after,g⟩ v:=by
 intro w a σ S ad;have U:=ad.BA ar;cases b with
 |true=>exact ⟨a.eval y,ad.dL ai,fun w' _=>by simp [execOp,U,asBool]⟩
 |false=>exact ⟨a.eval z,ad.dL ai,fun w' _=>by simp [execOp,U,asBool]⟩
theorem oq {op:BinOp}{t:TypeId}{x y:Operand}{k fJ:IntKind}{m n:Int}{w:World}:(eqGuard op t x y (.int k m) (.int fJ n)).run P w= .ok () w:=by have bZ:= ‹bA›;unfold eqGuard;split<;>rfl
theorem hK {x y:Operand}{t cF:TypeId}{m n:Int}(ar:bG fr x=some (.int .i64 m))(a1:bG fr y=some (.int .i64 n))(al: -9223372036854775808≤m+n∧m+n≤9223372036854775807):
 b1 ind P fn c fr H ⟨d,.binOp .add t x y cF,ty,pos,after,g⟩ (.int .i64 (m+n)):=by intro w a σ S ad;have U:=ad.ff ar;have ab:=ad.ff a1;refine ⟨_,.int _ _ _,fun w' _=> ?_⟩;have ay:IntKind.i64.wrap (m+n)=m+n:=IntWalk.i64_in _ al;simp [execOp,U,ab,oq,binOp,Op.intArith,ay]
theorem pc {x y:Operand}{t cF:TypeId}{m n:Int}(ar:bG fr x=some (.int .i64 m))(a1:bG fr y=some (.int .i64 n))(al: -9223372036854775808≤m-n∧m-n≤9223372036854775807):
 b1 ind P fn c fr H ⟨d,.binOp .sub t x y cF,ty,pos,after,g⟩ (.int .i64 (m-n)):=by intro w a σ S ad;have U:=ad.ff ar;have ab:=ad.ff a1;refine ⟨_,.int _ _ _,fun w' _=> ?_⟩;have ay:IntKind.i64.wrap (m-n)=m-n:=IntWalk.i64_in _ al;simp [execOp,U,ab,oq,binOp,Op.intArith,ay]
theorem Iv {x y:Operand}{t cF:TypeId}{m n:Int}(ar:bG fr x=some (.int .i64 m))(a1:bG fr y=some (.int .i64 n))(al: -9223372036854775808≤m*n∧m*n≤9223372036854775807):
 b1 ind P fn c fr H ⟨d,.binOp .mul t x y cF,ty,pos,after,g⟩ (.int .i64 (m*n)):=by intro w a σ S ad;have U:=ad.ff ar;have ab:=ad.ff a1;refine ⟨_,.int _ _ _,fun w' _=> ?_⟩;have ay:IntKind.i64.wrap (m*n)=m*n:=IntWalk.i64_in _ al;simp [execOp,U,ab,oq,binOp,Op.intArith,ay]
theorem Qj {op:BinOp}{x y:Operand}{t cF:TypeId}{k:IntKind}{m n:Int}(ar:bG fr x=some (.int k m))(a1:bG fr y=some (.int k n)){r:Int}(ah:(match op with| .add=>some (k.wrap (m+n))| .sub=>some (k.wrap (m-n))| .mul=>some (k.wrap (m*n))|_=>none)=some r):
 b1 ind P fn c fr H ⟨d,.binOp op t x y cF,ty,pos,after,g⟩ (.int k r):=by intro w a σ S ad;have U:=ad.ff ar;have ab:=ad.ff a1;refine ⟨_,.int _ _ _,fun w' _=> ?_⟩;cases op<;>simp at ah<;>subst ah<;>simp [execOp,U,ab,oq,binOp,Op.intArith]
theorem ait {x y:Operand}{t cF:TypeId}{m n:Int}(ar:bG fr x=some (.int .i64 m))(a1:bG fr y=some (.int .i64 n))(al:0≤m∧m≤9223372036854775807∧0<n):
 b1 ind P fn c fr H ⟨d,.binOp .quo t x y cF,ty,pos,after,g⟩ (.int .i64 (m/n)):=by intro w a σ S ad;have U:=ad.ff ar;have ab:=ad.ff a1;refine ⟨_,.int _ _ _,fun w' _=> ?_⟩;have aI: ¬n=0:=J;have bf:m.tdiv n=m/n:=Int.tdiv_eq_ediv_of_nonneg al.1;have bL:0≤m/n:=Int.ediv_nonneg al.1 J;have dz:m/n≤m:=Int.ediv_le_self _ al.1;have ay:IntKind.i64.wrap (m/n)=m/n:=IntWalk.i64_in _ ⟨J,J⟩;simp [execOp,U,ab,oq,binOp,Op.intDiv,aI,bf,ay]
theorem aiv {x y:Operand}{t cF:TypeId}{k:IntKind}{m n:Int}(ar:bG fr x=some (.int k m))(a1:bG fr y=some (.int k n))(al:0≤m∧ ¬n=0):
 b1 ind P fn c fr H ⟨d,.binOp .rem t x y cF,ty,pos,after,g⟩ (.int k (m%n)):=by intro w a σ S ad;have U:=ad.ff ar;have ab:=ad.ff a1;refine ⟨_,.int _ _ _,fun w' _=> ?_⟩;have bf:m.tmod n=m%n:=Int.tmod_eq_emod_of_nonneg al.1;simp [execOp,U,ab,oq,binOp,Op.intDiv,al.2,bf]
theorem aiu {x y:Operand}{t cF:TypeId}{k:IntKind}{m n:Int}(ar:bG fr x=some (.int k m))(a1:bG fr y=some (.int k n))(al: ¬n=0):
 b1 ind P fn c fr H ⟨d,.binOp .quo t x y cF,ty,pos,after,g⟩ (.int k (k.wrap (m.tdiv n))):=by intro w a σ S ad;have U:=ad.ff ar;have ab:=ad.ff a1;refine ⟨_,.int _ _ _,fun w' _=> ?_⟩;simp [execOp,U,ab,oq,binOp,Op.intDiv,al]
instance (m n:Int):Decidable (¬m=n):=inferInstance
section
variable {x y:Operand}{t cF:TypeId}{k:IntKind}{m n:Int}(ar:bG fr x=some (.int k m))(a1:bG fr y=some (.int k n))
include ar a1
theorem pk:b1 ind P fn c fr H ⟨d,.binOp .eql t x y cF,ty,pos,after,g⟩ (.bool (decide (m=n))):=by intro w a σ S ad;refine ⟨_,.bool _ _,fun w' _=> ?_⟩;simp [execOp,ad.ff ar,ad.ff a1,oq,binOp,Op.intCmp];rfl
theorem rR:b1 ind P fn c fr H ⟨d,.binOp .neq t x y cF,ty,pos,after,g⟩ (.bool (decide (¬m=n))):=by intro w a σ S ad;refine ⟨_,.bool _ _,fun w' _=> ?_⟩;simp [execOp,ad.ff ar,ad.ff a1,oq,binOp,Op.intCmp];by_cases h:m=n<;>simp [h]
theorem qU:b1 ind P fn c fr H ⟨d,.binOp .lss t x y cF,ty,pos,after,g⟩ (.bool (decide (m<n))):=by intro w a σ S ad;refine ⟨_,.bool _ _,fun w' _=> ?_⟩;simp [execOp,ad.ff ar,ad.ff a1,oq,binOp,Op.intCmp]
theorem TI:b1 ind P fn c fr H ⟨d,.binOp .leq t x y cF,ty,pos,after,g⟩ (.bool (decide (m≤n))):=by intro w a σ S ad;refine ⟨_,.bool _ _,fun w' _=> ?_⟩;simp [execOp,ad.ff ar,ad.ff a1,oq,binOp,Op.intCmp]
theorem xi:b1 ind P fn c fr H ⟨d,.binOp .gtr t x y cF,ty,pos,after,g⟩ (.bool (decide (n<m))):=by intro w a σ S ad;refine ⟨_,.bool _ _,fun w' _=> ?_⟩;simp [execOp,ad.ff ar,ad.ff a1,oq,binOp,Op.intCmp]
theorem A9:b1 ind P fn c fr H ⟨d,.binOp .geq t x y cF,ty,pos,after,g⟩ (.bool (decide (n≤m))):=by intro w a σ S ad;refine ⟨_,.bool _ _,fun w' _=> ?_⟩;simp [execOp,ad.ff ar,ad.ff a1,oq,binOp,Op.intCmp]
end
theorem vF {x:Operand}{t:TypeId}{b:Bool}(ar:bG fr x=some (.bool b)):b1 ind P fn c fr H ⟨d,.unOp .not t x,ty,pos,after,g⟩ (.bool (!b)):=by intro w a σ S ad;refine ⟨_,.bool _ _,fun w' _=> ?_⟩;simp [execOp,ad.BA ar,Op.unary]
theorem TK {x:Operand}{t:TypeId}{m:Int}(ar:bG fr x=some (.int .i64 m))(al: -9223372036854775807≤m∧m≤9223372036854775807):b1 ind P fn c fr H ⟨d,.unOp .neg t x,ty,pos,after,g⟩ (.int .i64 (-m)):=by
 intro w a σ S ad;refine ⟨_,.int _ _ _,fun w' _=> ?_⟩;have ay:IntKind.i64.wrap (0-m)= -m:=by rw [IntWalk.i64_in _ ⟨J,J⟩];omega
 simp [execOp,ad.ff ar,Op.unary,Op.intArith];simpa using ay
theorem Qr {x:Operand}{src dst:TypeId}{k fJ:IntKind}{u:TypeDesc}{m:Int}(av:P.underlying src=some u)(hd:P.underlying dst=some (.int fJ))(ar:bG fr x=some (.int k m)):
 b1 ind P fn c fr H ⟨d,.convert src dst x,ty,pos,after,g⟩ (.int fJ (fJ.wrap m)):=by intro w a σ S ad;refine ⟨_,.int _ _ _,fun w' _=> ?_⟩;cases u<;>simp [execOp,ad.ff ar,convert,run_underlying av,run_underlying hd,Conv.intToInt]
theorem AH {x:Operand}{src dst:TypeId}{k:IntKind}{u:TypeDesc}{m:Int}(av:P.underlying src=some u)(hd:P.underlying dst=some (.int .i64))(ar:bG fr x=some (.int k m))(al: -9223372036854775808≤m∧m≤9223372036854775807):
 b1 ind P fn c fr H ⟨d,.convert src dst x,ty,pos,after,g⟩ (.int .i64 m):=by
 have ay:IntKind.i64.wrap m=m:=IntWalk.i64_in _ al;have:=Qr (ind:=ind) (P:=P) (fn:=fn) (c:=c) (fr:=fr) (H:=H) (d:=d) (ty:=ty) (pos:=pos) (after:=after) (g:=g) (x:=x) (src:=src) (dst:=dst) av hd ar
 rwa [ay] at this
theorem nG {x:Operand}{i:Nat}{l:List ak}{v:ak}(ar:bG fr x=some (.cn l))(ai:l[i]? =some v):b1 ind P fn c fr H ⟨d,.extract x i,ty,pos,after,g⟩ v:=by
 intro w a σ S ad;have U:=ad.dL ar;generalize bw:a.eval x=z at U;cases U with
 |cn _ _ vs au rk=>
  have aa:i<l.length:=(hi.1 ai).1;have ab:=rk i aa;have ay:l.getD i .any=v:=by simp [List.getD,ai]
  rw [ay] at ab;have bf:vs[i]? =some (vs.getD i undef):=by simp [Array.getD,au,aa]
  generalize vs.getD i undef=y at ab bf;refine ⟨y,ab,fun w' _=> ?_⟩;simp [execOp,bw,Instr.extract,bf]
theorem fP {x:Operand}{t:TypeId}{e:TypeId}{v:ak}{n:Nat}(bu:P.underlying t=some (.slice e))(ar:bG fr x=some v)(aI:(match v with| .ro _ _ n=>some n| .aC _ _ n=>some n| .nil=>some 0|_=>none)=some n):
 b1 ind P fn c fr H ⟨d,.call {callee:= .builtin .len,args:= #[x],argTypes:= #[t]},ty,pos,after,g⟩ (.int .i64 n):=by intro w a σ S ad;have U:=ad.dL ar;generalize bw:a.eval x=z at U;refine ⟨_,.int _ _ _,fun w' _=> ?_⟩;cases U<;>simp at aI<;>subst aI<;>simp [execOp,resolve,bw,invoke,builtin,Builtin.len_,run_underlying bu,goInt]
theorem C7 {x:Operand}{t:TypeId}{s:List UInt8}(bu:P.underlying t=some .string)(ar:bG fr x=some (.str s)):
 b1 ind P fn c fr H ⟨d,.call {callee:= .builtin .len,args:= #[x],argTypes:= #[t]},ty,pos,after,g⟩ (.int .i64 s.length):=by intro w a σ S ad;have U:=ad.v8 ar;refine ⟨_,.int _ _ _,fun w' _=> ?_⟩;have ab:(⟨s.toArray⟩:ByteArray).size=s.length:=Gm s;simp [execOp,resolve,U,pr,invoke,builtin,Builtin.len_,run_underlying bu,goInt,ab]
theorem amF {x i:Operand}{t e:TypeId}{dY:Cells}{o len:Nat}{k:IntKind}{m:Int}(bu:P.underlying t=some (.slice e))(av:(P.info? e).map (·.size)=some dY.aD)(ar:bG fr x=some (.ro dY o len))(aa:bG fr i=some (.int k m))(al:0≤m∧m<len):
 b1 ind P fn c fr H ⟨d,.indexAddr t x i,ty,pos,after,g⟩ (.cK dY (o+m.toNat) 0):=by
 intro w a σ S ad;have U:=ad.dL ar;have ab:=ad.ff aa;generalize bw:a.eval x=z at U;cases U with
 |kq=>omega
 |ro _ _ _ _ b of cap val dq hlen aw ai gB=>
  have Mk:m.toNat<len:=J;refine ⟨.pointer (some ⟨b,of+m.toNat*dY.aD,none⟩),.cK _ _ _ _ _ _ (fun e=>val m.toNat e) dq (fun e he=> ?_) (fun e he=> ?_) (fun e he=>gB m.toNat e Mk (by simpa using he)),fun w' _=> ?_⟩
  ·simp only [cT] at he;exact aw m.toNat e Mk he
  ·simp only [cT] at he⊢;exact ai m.toNat e Mk he
  ·cases aB:P.info? e with
   |none=>simp [aB] at av
   |some inf=>
    have cz:inf.size=dY.aD:=by simpa [aB] using av
    simp [execOp,bw,ab,Instr.indexAt,asIntOf,run_underlying bu,al,sizeOf,typeInfo,aB,cz,Addr.add_lit]
theorem amG {x i:Operand}{t e:TypeId}{h o len:Nat}{bg:bl}{k:IntKind}{m:Int}(bu:P.underlying t=some (.slice e))(ar:bG fr x=some (.aC h o len))(aV:H[h]? =some (some bg))(av:(P.info? e).map (·.size)=some bg.c.aD)(aa:bG fr i=some (.int k m))(al:0≤m∧m<len):
 b1 ind P fn c fr H ⟨d,.indexAddr t x i,ty,pos,after,g⟩ (.ptr h (o+m.toNat) 0):=by
 intro w a σ S ad;have U:=ad.dL ar;have ab:=ad.ff aa;generalize bw:a.eval x=z at U;cases U with
 |ih=>omega
 |aC _ _ _ _ b s C cap bJ hlen jX=>
  rcases ad.ad.live h bg aV with ⟨aI,_⟩|⟨b',cL,cur,fq,ay⟩
  ·rw [bJ] at aI;cases aI
  ·rw [bJ] at fq;simp only [dC,bQ.at.injEq] at fq;obtain ⟨rfl,rfl,rfl⟩:=fq;refine ⟨_,.ptr _ h (o+m.toNat) 0 b bg.c.aD C bJ,fun w' _=> ?_⟩;cases aB:P.info? e with
   |none=>simp [aB] at av
   |some inf=>
    have cz:inf.size=bg.c.aD:=by simpa [aB] using av
    simp [execOp,bw,ab,Instr.indexAt,asIntOf,run_underlying bu,al,sizeOf,typeInfo,aB,cz,Addr.add_lit,dK]
def jn:TypeDesc→Bool
 | .struct _=>true
 | .array _ _=>true
 |_=>false
theorem yH {t:TypeId}{u:TypeDesc}{w:World}(bu:P.underlying t=some u):(isAgg t).run P w= .ok (jn u) w:=by have bZ:= ‹bA›;unfold isAgg;simp only [Sem.run_bind,run_underlying bu,Result.andThen_ok];cases u<;>rfl
theorem JE {x:Operand}{t:TypeId}{u:TypeDesc}{dY:Cells}{i j:Nat}{v:ak}(bu:P.underlying t=some u)(hu:jn u=false)(ar:bG fr x=some (.cK dY i j))(ae:Nat.blt j dY.aD=true)(ai:dY.at i j=v):
 b1 false P fn c fr H ⟨d,.load t x,ty,pos,after,g⟩ v:=by
 intro w a σ S ad;have U:=ad.dL ar;generalize bw:a.eval x=z at U;cases U with
 |cK _ _ _ _ b o val dq aw iy gB=>
  have bd:j+0<dY.aD:=iv ae;have ab:=iy 0 bd;have ay:=aw 0 bd;simp only [e6,ai] at ab ay;refine ⟨val 0,ab.mono (fun _ h=>h) (fun _ _=>rfl) _ (fun _ _ h=>by cases h),fun w' hw=> ?_⟩;have hw:=hw.resolve_left aT;have bf:w'.cell? ⟨b,o,none⟩=some (val 0):=by rw [←ay];exact World.cell?_of_block (by rw [hw])
  simp [execOp,bw,Instr.loadAt,Instr.sureAddr,loadVar,yH bu,hu,load,Sem.run,bf]
theorem Jl {x:Operand}{t:TypeId}{u:TypeDesc}{h i j:Nat}{bg:bl}{v:ak}(bu:P.underlying t=some u)(hu:jn u=false)(ar:bG fr x=some (.ptr h i j))(aV:H[h]? =some (some bg))(ae:Nat.blt j bg.c.aD=true)(ai:bg.c.at i j=v)(aa:i<bg.c.len):
 b1 false P fn c fr H ⟨d,.load t x,ty,pos,after,g⟩ v:=by
 intro w a σ S ad;have U:=ad.dL ar;generalize bw:a.eval x=z at U;cases U with
 |ptr _ _ _ _ b s C bJ=>
  rcases ad.ad.live h bg aV with ⟨aI,_⟩|⟨b',cL,cur,fq,ay,bf,bL,dz,fx,oR⟩
  ·rw [bJ] at aI;cases aI
  ·rw [bJ] at fq;simp only [dC,bQ.at.injEq] at fq;obtain ⟨rfl,rfl,rfl⟩:=fq;obtain ⟨y,afU,S2,arb⟩:=oR i j aa (iv ae);obtain ⟨mk,ay,_,_⟩:=ay.cells (by have:=iv ae;omega);rw [ai] at S2;refine ⟨y,S2,fun w' hw=> ?_⟩;have hw:=hw.resolve_left aT;have k8:w'.cell? ⟨b,i*bg.c.aD+j,none⟩=some y:=by simp [World.cell?,hw,ay,afU]
   simp [execOp,bw,Instr.loadAt,Instr.sureAddr,loadVar,yH bu,hu,load,Sem.run,k8]
end
end Go.aj
namespace Go.aj
variable [bA]
open Go.RowKit
def Cells.Ao:Cells→Nat→Nat→ak→Option Cells
 | .ints k l,i,_,v=>match v with
  | .int fJ n=>match k,fJ with
   | .i64,.i64=>some (.ints k (l.set i n))
   | .u8,.u8=>some (.ints k (l.set i n))
   | .u64,.u64=>some (.ints k (l.set i n))
   | .i32,.i32=>some (.ints k (l.set i n))
   | .u32,.u32=>some (.ints k (l.set i n))
   |_,_=>none
  |_=>none
 | .strs l,i,_,v=>match v with
  | .str s=>some (.strs (l.set i s))
  |_=>none
 | .box l,_,j,v=>some (.box (l.set j v))
 | .mp _ _,_,_,_=>none
 | .fn n s f,i,j,v=>some (.fn n s (fun aG a7=>bif Nat.beq aG i && Nat.beq a7 j then v else f aG a7))
def ak.one:ak→Bool
 | .agg _=>false
 | .cn _=>false
 | .any=>false
 |_=>true
theorem bz.one {w:World}{S:Nat→Prop}{σ:Nat→Option bQ}{x:ak}{v:Value}(h:bz w S σ x v)(ar:x.one=true):v.oneCell'=true:=by have bZ:= ‹bA›;cases h<;>first|rfl|cases ar
theorem Cells.akI {c c':Cells}{i j:Nat}{v:ak}(h:c.Ao i j v=some c'):c'.len=c.len∧c'.aD=c.aD∧ ∀aG a7,aG<c.len→a7<c.aD→i<c.len→j<c.aD→c'.at aG a7=if aG=i∧a7=j then v else c.at aG a7:=by
 have bZ:= ‹bA›;cases c with
 |ints k l=>
  have: ∃n,v= .int k n∧c'= .ints k (l.set i n):=by
   cases v<;>simp only [Cells.Ao] at h<;>try (cases h;done)
   rename_i fJ n;cases k<;>cases fJ<;>simp at h<;>exact ⟨n,rfl,h.symm⟩
  obtain ⟨n,rfl,rfl⟩:=this;refine ⟨by simp [Cells.len],I,fun aG a7 aa ae ko lE=> ?_⟩;simp only [Cells.len,Cells.aD] at aa ae ko lE;have aH:a7=0:=J;have aJ:j=0:=J;subst aH aJ;simp only [Cells.at,and_true];by_cases he:aG=i
  ·subst he;simp [List.getD,aa]
  ·have: ¬i=aG:=fun e=>he e.symm;simp [List.getD,he,this]
 |strs l=>
  have: ∃n,v= .str n∧c'= .strs (l.set i n):=by
   cases v<;>simp only [Cells.Ao] at h<;>try (cases h;done)
   exact ⟨_,I,(oG h).symm⟩
  obtain ⟨n,rfl,rfl⟩:=this;refine ⟨by simp [Cells.len],I,fun aG a7 aa ae ko lE=> ?_⟩;simp only [Cells.len,Cells.aD] at aa ae ko lE;have aH:a7=0:=J;have aJ:j=0:=J;subst aH aJ;simp only [Cells.at,and_true];by_cases he:aG=i
  ·subst he;simp [List.getD,aa]
  ·have: ¬i=aG:=fun e=>he e.symm;simp [List.getD,he,this]
 |box l=>
  simp only [Cells.Ao,dC] at h;subst h;refine ⟨I,by simp [Cells.aD],fun aG a7 aa ae ko lE=> ?_⟩;simp only [Cells.len,Cells.aD] at aa ae ko lE;have aH:aG=0:=J;have aJ:i=0:=J;subst aH aJ;simp only [Cells.at,true_and];by_cases he:a7=j
  ·subst he;simp [List.getD,ae]
  ·have: ¬j=a7:=fun e=>he e.symm;simp [List.getD,he,this]
 |fn n s f=>
  simp only [Cells.Ao,dC] at h;subst h;refine ⟨I,I,fun aG a7 aa ae ko lE=> ?_⟩;simp only [Cells.at];by_cases he:aG=i
  ·subst he;by_cases km:a7=j
   ·subst km;simp
   ·simp [dv km,km]
  ·simp [dv he,he]
 |mp ks vs=>cases h
theorem cc.obj {c:Ctx}{w:World}{a:Act}{σ:Nat→Option bQ}{S:Nat→Prop}{n:Nat}{fr:Fr}{H:aZ}(ad:cc c w a σ S n fr H){h b s C:Nat}{o:bl}(aV:H[h]? =some (some o))(bJ:σ h=some (.at b s C)):
 s=o.c.aD∧ ∃cur,Lays w S σ o b cur C∧cur.size=C*o.c.aD∧C≤maxLen+1∧o.c.len≤C∧ ¬S b∧
  ∀i j,i<o.c.len→j<o.c.aD→ ∃v,cur[i*o.c.aD+j]? =some v∧bz w S σ (o.c.at i j) v∧v.oneCell'=true:=by
 rcases ad.ad.live h o aV with ⟨aI,_⟩|⟨b',cL,cur,fq,ay⟩
 ·rw [bJ] at aI;cases aI
 ·rw [bJ] at fq;simp only [dC,bQ.at.injEq] at fq;obtain ⟨rfl,rfl,rfl⟩:=fq;exact ⟨I,cur,ay⟩
theorem cc.setRow {c:Ctx}{w:World}{a:Act}{σ:Nat→Option bQ}{S:Nat→Prop}{n:Nat}{fr:Fr}{H:aZ}(ad:cc c w a σ S n fr H){h b s C:Nat}{o:bl}(aV:H[h]? =some (some o))(bJ:σ h=some (.at b s C)){c':Cells}{cur':Array Value}(jB:C≤maxLen)(cz:c'.aD=o.c.aD)(hlen:c'.len≤C)(jf:cur'.size=C*o.c.aD)(aw: ∀i j,i<c'.len→j<c'.aD→ ∃v,cur'[i*c'.aD+j]? =some v∧bz w S σ (c'.at i j) v∧v.oneCell'=true):
 cc c (w.setRow b cur') a σ S n fr (H.set h (some ⟨o.ty,c'⟩)):=by
 obtain ⟨av,cur,U,ab,ay,bf,bL,dz⟩:=ad.obj aV bJ;obtain ⟨mk,U,lF⟩:=U.jv jB;have bD:h<H.length:=(hi.1 aV).1;have dq: ∀b',S b'→(w.setRow b cur').heap[b']? =w.heap[b']? :=fun b' al=>setRow_other w b b' cur' (fun e=>bL (e▸al));have ai: ∀{bC:Nat→Option bQ} {x v},bz w S bC x v→bz (w.setRow b cur') S bC x v:=fun h=>h.mono (fun _ h=>h) dq _ (fun _ _ h=>h);have c9: ∀aS o',(H.set h (some ⟨o.ty,c'⟩))[aS]? =some (some o')→(aS=h∧o'=⟨o.ty,c'⟩)∨(aS≠h∧H[aS]? =some (some o')):=by
  intro aS o' ah;by_cases he:aS=h
  ·subst he;simp only [oH bD,dC] at ah;exact .inl ⟨I,ah.symm⟩
  ·rw [lV (q3 he)] at ah;exact .inr ⟨he,ah⟩
 have tA:=ad.bj.own h o b s C aV bJ;refine ⟨⟨?_,?_,fun b' al=>by rw [setRow_size];exact ad.ad.small b' al,fun aS au=>ad.ad.ie aS (by simpa using au)⟩,?_,ad.defers,ad.size,fun t v au=>⟨(ad.fl t v au).1,ai (ad.fl t v au).2⟩⟩
 ·intro aS o' ah;rcases c9 aS o' ah with ⟨rfl,rfl⟩|⟨cd,cP⟩
  ·right;refine ⟨b,C,cur',?_,.row mk (setRow_heap w b cur cur' _ _ U) (by rw [jf,←ab];exact lF) jB,by simpa [cz] using jf,ay,hlen,bL,fun i j aa ae=> ?_⟩
   ·rw [bJ,av,cz]
   ·obtain ⟨v,aH,aJ,bR⟩:=aw i j aa ae;exact ⟨v,aH,ai aJ,bR⟩
  ·rcases ad.ad.live aS o' cP with aI|⟨b',cL,iV,g1,g2,g3,g4,g5,g6,g7⟩
   ·exact .inl aI
   ·right;have tu:b'≠b:=fun e=>cd (ad.ad.hJ aS h o' o b' o'.c.aD cL s C cP aV g1 (by rw [bJ,e]));refine ⟨b',cL,iV,g1,g2.mono (setRow_other w b b' cur' tu) ai,g3,g4,g5,g6,fun i j aa ae=> ?_⟩;obtain ⟨v,aH,aJ,bR⟩:=g7 i j aa ae;exact ⟨v,aH,ai aJ,bR⟩
 ·intro gB wc o1 o2 b' s1 gI s2 gx g1 g2 aH aJ;have t1: ∃o,H[gB]? =some (some o):=by
   rcases c9 gB o1 g1 with ⟨rfl,_⟩|⟨_,g⟩
   ·exact ⟨_,aV⟩
   ·exact ⟨_,g⟩
  have t2: ∃o,H[wc]? =some (some o):=by
   rcases c9 wc o2 g2 with ⟨rfl,_⟩|⟨_,g⟩
   ·exact ⟨_,aV⟩
   ·exact ⟨_,g⟩
  obtain ⟨_,t1⟩:=t1;obtain ⟨_,t2⟩:=t2;exact ad.ad.hJ gB wc _ _ b' s1 gI s2 gx t1 t2 aH aJ
 ·refine ⟨ad.bj.os,ad.bj.output,ad.bj.tape,by rw [setRow_size];exact ad.bj.size,fun b' al ah=> ?_,ad.bj.hX,ad.bj.e5,ad.bj.fixed,fun aS aQ=>by simpa using ad.bj.jx aS aQ,?_⟩
  ·have tu:b'≠b:=by
    rintro rfl;rcases tA with h|h
    ·exact ah h
    ·omega
   rw [setRow_other w b b' cur' tu];exact ad.bj.block b' al ah
  ·intro aS o' b' cy cL ah al;rcases c9 aS o' ah with ⟨rfl,_⟩|⟨_,g⟩
   ·exact ad.bj.own _ _ b' cy cL aV al
   ·exact ad.bj.own aS o' b' cy cL g al
def cN (σ:Nat→Option bQ)(h:Nat)(B:bQ):Nat→Option bQ:=fun aS=>if aS=h then some B else σ aS
theorem cc.ZO {c:Ctx}{w:World}{a:Act}{σ:Nat→Option bQ}{S:Nat→Prop}{n:Nat}{fr:Fr}{H:aZ}(ad:cc c w a σ S n fr H){o:bl}{C:Nat}{cur:Array Value}{mk:Nat×Nat}(hlen:o.c.len≤C)(ed:C≤maxLen)(jf:cur.size=C*o.c.aD)(aw: ∀i j,i<o.c.len→j<o.c.aD→ ∃v,cur[i*o.c.aD+j]? =some v∧bz w S σ (o.c.at i j) v∧v.oneCell'=true)(lF:mk.2≤mk.1∨cur.size≤mk.1):
 cc c (w.alloc (.cells cur o.ty mk)) a (cN σ H.length (.at w.heap.size o.c.aD C)) S n fr (H++[some o]):=by
 have hold: ∀b,b<w.heap.size→(w.alloc (.cells cur o.ty mk)).heap[b]? =w.heap[b]? :=fun b al=>Below.heap_alloc _ _ b al;have ob: ∀h B,σ h=some B→cN σ H.length (.at w.heap.size o.c.aD C) h=some B:=by
  intro h B ck;unfold cN;split
  ·rename_i he;rw [he,ad.ad.ie _ (bT _)] at ck;cases ck
  ·exact ck
 have ai: ∀{x v},bz w S σ x v→bz (w.alloc (.cells cur o.ty mk)) S (cN σ H.length (.at w.heap.size o.c.aD C)) x v:=
  fun h=>h.mono (fun _ h=>h) (fun b al=>hold b (ad.ad.small b al)) _ ob
 have c9: ∀aS o',(H++[some o])[aS]? =some (some o')→(aS=H.length∧o'=o)∨(aS<H.length∧H[aS]? =some (some o')):=by
  intro aS o' ah;by_cases he:aS<H.length
  ·rw [hQ he] at ah;exact .inr ⟨he,ah⟩
  ·by_cases km:aS=H.length
   ·subst km;simp at ah;exact .inl ⟨rfl,ah.symm⟩
   ·have:(H++[some o]).length≤aS:=by simp;omega
    rw [kG this] at ah;cases ah
 have E2: ∀h o' b s cL,h<H.length→H[h]? =some (some o')→σ h=some (.at b s cL)→b<w.heap.size:=by intro h o' b s cL _ ah al;obtain ⟨_,iV,g,_⟩:=ad.obj ah al;exact g.lt
 refine ⟨⟨?_,?_,fun b al=>by have:=ad.ad.small b al;simp;omega,fun h au=> ?_⟩,?_,ad.defers,ad.size,fun t v au=>⟨(ad.fl t v au).1,ai (ad.fl t v au).2⟩⟩
 ·intro aS o' ah;rcases c9 aS o' ah with ⟨rfl,rfl⟩|⟨bD,cP⟩
  ·right;refine ⟨w.heap.size,C,cur,by simp [cN],.row mk (heap_alloc_new w _) lF ed,jf,Nat.le_succ_of_le ed,hlen,fun av=>oI _ (ad.ad.small _ av),fun i j aa ae=> ?_⟩;obtain ⟨v,aH,aJ,bR⟩:=aw i j aa ae;exact ⟨v,aH,ai aJ,bR⟩
  ·rcases ad.ad.live aS o' cP with ⟨aI,jA⟩|⟨b',cL,iV,g1,g2,g3,g4,g5,g6,g7⟩
   ·exact .inl ⟨ob _ _ aI,jA⟩
   ·right;refine ⟨b',cL,iV,ob _ _ g1,g2.mono (hold b' g2.lt) ai,g3,g4,g5,g6,fun i j aa ae=> ?_⟩;obtain ⟨v,aH,aJ,bR⟩:=g7 i j aa ae;exact ⟨v,aH,ai aJ,bR⟩
 ·intro U ab o1 o2 b s1 gI s2 gx g1 g2 aH aJ;rcases c9 U o1 g1 with ⟨rfl,rfl⟩|⟨fW,wa⟩<;>rcases c9 ab o2 g2 with ⟨rfl,rfl⟩|⟨fK,Ed⟩
  ·rfl
  ·simp only [cN,gf,dC,bQ.at.injEq] at aH;simp only [cN,pw fK,hH] at aJ;have:=E2 ab o2 b s2 gx fK Ed aJ;omega
  ·simp only [cN,gf,dC,bQ.at.injEq] at aJ;simp only [cN,pw fW,hH] at aH;have:=E2 U o1 b s1 gI fW wa aH;omega
  ·simp only [cN,pw fW,pw fK,hH] at aH aJ;exact ad.ad.hJ U ab o1 o2 b s1 gI s2 gx wa Ed aH aJ
 ·simp only [c8,gK,lv] at au;have: ¬h=H.length:=J;simp only [cN,this,hH];exact ad.ad.ie h J
 ·refine ⟨ad.bj.os,ad.bj.output,ad.bj.tape,by have:=ad.bj.size;simp;omega,fun b al ah=> ?_,ad.bj.hX,ad.bj.e5,fun h aQ=> ?_,fun h aQ=>by have:=ad.bj.jx h aQ;simp;omega,?_⟩
  ·rw [hold b (by have:=ad.bj.size;omega)];exact ad.bj.block b al ah
  ·have:=ad.bj.jx h aQ;have ab: ¬h=H.length:=J;simp only [cN,ab,hH];exact ad.bj.fixed h aQ
  ·intro aS o' b s cL ah al;rcases c9 aS o' ah with ⟨rfl,rfl⟩|⟨bD,cP⟩
   ·simp only [cN,gf,dC,bQ.at.injEq] at al;have:=ad.bj.size;omega
   ·simp only [cN,pw bD,hH] at al;exact ad.bj.own aS o' b s cL cP al
theorem cc.alloc {c:Ctx}{w:World}{a:Act}{σ:Nat→Option bQ}{S:Nat→Prop}{n:Nat}{fr:Fr}{H:aZ}(ad:cc c w a σ S n fr H){o:bl}{C:Nat}{cur:Array Value}(hlen:o.c.len≤C)(ed:C≤maxLen)(jf:cur.size=C*o.c.aD)(aw: ∀i j,i<o.c.len→j<o.c.aD→ ∃v,cur[i*o.c.aD+j]? =some v∧bz w S σ (o.c.at i j) v∧v.oneCell'=true):
 cc c (w.alloc (.cells cur o.ty (0,0))) a (cN σ H.length (.at w.heap.size o.c.aD C)) S n fr (H++[some o]):=
 ad.ZO hlen ed jf aw (.inl (bT _))
theorem cc.ZP {c:Ctx}{w:World}{a:Act}{σ:Nat→Option bQ}{S:Nat→Prop}{n:Nat}{fr:Fr}{H:aZ}(ad:cc c w a σ S n fr H)(bg:Obj):
 cc c (w.alloc bg) a σ (fun b=>S b∨b=w.heap.size) n fr H:=by
 have hold: ∀b,b<w.heap.size→(w.alloc bg).heap[b]? =w.heap[b]? :=fun b al=>Below.heap_alloc _ _ b al;have ai: ∀{bC:Nat→Option bQ} {x v},bz w S bC x v→bz (w.alloc bg) (fun b=>S b∨b=w.heap.size) bC x v:=
  fun h=>h.mono (fun _ h=> .inl h) (fun b al=>hold b (ad.ad.small b al)) _ (fun _ _ h=>h)
 refine ⟨⟨?_,ad.ad.hJ,fun b al=> ?_,ad.ad.ie⟩,?_,ad.defers,ad.size,fun t v au=>⟨(ad.fl t v au).1,ai (ad.fl t v au).2⟩⟩
 ·intro aS o' cP;rcases ad.ad.live aS o' cP with ⟨aI,jA⟩|⟨b',cL,iV,g1,g2,g3,g4,g5,g6,g7⟩
  ·exact .inl ⟨aI,jA⟩
  ·right;have bD:=g2.lt;refine ⟨b',cL,iV,g1,g2.mono (hold b' bD) ai,g3,g4,g5,?_,fun i j aa ae=> ?_⟩
   ·rintro (h|h)
    ·exact g6 h
    ·omega
   ·obtain ⟨v,aH,aJ,bR⟩:=g7 i j aa ae;exact ⟨v,aH,ai aJ,bR⟩
 ·rcases al with h|h
  ·have:=ad.ad.small b h;simp;omega
  ·simp;omega
 ·refine ⟨ad.bj.os,ad.bj.output,ad.bj.tape,by have:=ad.bj.size;simp;omega,fun b al ah=> ?_,fun b al=> .inl (ad.bj.hX b al),fun b al=> ?_,ad.bj.fixed,ad.bj.jx,ad.bj.own⟩
  ·rw [hold b (by have:=ad.bj.size;omega)];exact ad.bj.block b al ah
  ·rcases al with h|h
   ·exact ad.bj.e5 b h
   ·have:=ad.bj.size;exact .inr (.inr J)
end Go.aj
namespace Go.aj
variable [bA]
open Go.RowKit
section
variable {P:Program}{fn:Func}{c:Ctx}{fr:Fr}{H:aZ}{k:List eF}
theorem rZ {all:Array Oper}{d:Nat}{op:Op}{ty:TypeId}{pos:String}{after:Array Edge}{rest:List Oper}{v:ak}{iw:Fr}{bK:aZ}(qv: ∀w a σ S,cc c w a σ S fn.ntmps fr H→ ∃x w' bC ca,(execOp a.eval ⟨some d,op,ty,pos,after,none⟩).run P w= .ok (.value x) w'∧cc c w' a bC ca fn.ntmps iw bK∧bz w' ca bC v x)(h:aj P fn c (.ops false all rest k) ((d,v)::iw) bK):aj P fn c (.ops false all (⟨some d,op,ty,pos,after,none⟩::rest) k) fr H:=by intro hd w a σ S ad;obtain ⟨jg,kl⟩:=tR hd;obtain ⟨x,w',bC,ca,dR,fV,ar⟩:=qv w a σ S ad;refine wpList_step (fun K dH=> ?_);simp only [Region.wanted,gf];unfold Oper.wp;rw [dR];exact dH _ _ (h kl w' _ bC ca (fV.put ar (jg d I)))
theorem GD {all:Array Oper}{op:Op}{ty:TypeId}{pos:String}{after:Array Edge}{rest:List Oper}{iw:Fr}{bK:aZ}(qv: ∀w a σ S,cc c w a σ S fn.ntmps fr H→ ∃w' bC ca,(execOp a.eval ⟨none,op,ty,pos,after,none⟩).run P w= .ok .skip w'∧cc c w' a bC ca fn.ntmps iw bK)(h:aj P fn c (.ops false all rest k) iw bK):aj P fn c (.ops false all (⟨none,op,ty,pos,after,none⟩::rest) k) fr H:=by intro hd w a σ S ad;obtain ⟨_,kl⟩:=tR hd;obtain ⟨w',bC,ca,dR,fV⟩:=qv w a σ S ad;refine wpList_step (fun K dH=> ?_);simp only [Region.wanted,gf];unfold Oper.wp;rw [dR];exact dH _ _ (h kl w' _ bC ca fV)
theorem AN {t:TypeId}{s:Nat}{w:World}(av:(P.info? t).map (·.size)=some s):(sizeOf t).run P w= .ok s w:=by
 have bZ:= ‹bA›;cases aB:P.info? t with
 |none=>simp [aB] at av
 |some i=>simp [aB] at av;subst av;simp [sizeOf,typeInfo,aB]
theorem lK {all:Array Oper}{t:TypeId}{x y:Operand}{ty:TypeId}{pos:String}{after:Array Edge}{rest:List Oper}{h i j:Nat}{bg:bl}{v:ak}{c':Cells}(ar:bG fr x=some (.ptr h i j))(a1:bG fr y=some v)(zV:v.one=true)(av:(P.info? t).map (·.size)=some 1)(aV:H[h]? =some (some bg))(ae:Nat.blt j bg.c.aD=true)(hu:bg.c.Ao i j v=some c')(aa:i<bg.c.len)(an:aj P fn c (.ops false all rest k) fr (H.set h (some ⟨bg.ty,c'⟩))):aj P fn c (.ops false all (⟨none,.store t x y,ty,pos,after,none⟩::rest) k) fr H:=by
 refine GD (fun w a σ S ad=> ?_) an;have U:=ad.dL ar;have ab:=ad.dL a1;have bd:j<bg.c.aD:=iv ae;generalize bw:a.eval x=z at U;generalize mu:a.eval y=u at ab;have Mr:=ab.one zV;cases U with
 |ptr _ _ _ _ b s C bJ=>
  obtain ⟨gY,cur,g1,g2,g3,g4,g5,g6⟩:=ad.obj aV bJ;subst gY;obtain ⟨mk,g1,lF,jB⟩:=g1.cells J;obtain ⟨fW,fK,hB⟩:=Cells.akI hu;have dV:i*bg.c.aD+j<cur.size:=by rw [g2];have:(i+1)*bg.c.aD≤C*bg.c.aD:=er _ J;rw [dK] at this;omega
  refine ⟨w.setRow b (cur.setIfInBounds (i*bg.c.aD+j) u),σ,S,?_,ad.setRow aV bJ jB fK J (by simpa using g2) (fun aG a7 aL bd=> ?_)⟩
  ·have Er:w.cell? ⟨b,i*bg.c.aD+j,none⟩=some cur[i*bg.c.aD+j]:=by simp [World.cell?,g1,dV]
   have aQ:w.frozen? ⟨b,i*bg.c.aD+j,none⟩=false:=by simp [World.frozen?,g1];omega
   have Es:u.cells= #[u]:=by cases u<;>first|rfl|cases Mr
   have dS:=run_store P w ⟨b,i*bg.c.aD+j,none⟩ u .plain Mr;rw [Er] at dS;simp only [aQ,r9,hH,setCell_eq_setRow w b (i*bg.c.aD+j) cur bg.ty mk u g1] at dS;simp [execOp,bw,mu,Instr.storeAt,Instr.sureAddr,storeVar,Es,AN av,storeCells,Addr.add_lit,dS]
  ·rw [fW] at aL;rw [fK] at bd⊢;rw [hB aG a7 aL bd aa h1];by_cases he:aG=i∧a7=j
   ·obtain ⟨rfl,rfl⟩:=he;simp only [and_self,gf];exact ⟨u,by simp [dV],ab,Mr⟩
   ·rw [ax he];obtain ⟨qF,aH,aJ,bR⟩:=g6 aG a7 aL bd;refine ⟨qF,?_,aJ,bR⟩;have cd: ¬i*bg.c.aD+j=aG*bg.c.aD+a7:=by
     intro e;apply he;have hd:(i*bg.c.aD+j)/bg.c.aD=(aG*bg.c.aD+a7)/bg.c.aD:=by rw [e]
     have hm:(i*bg.c.aD+j)%bg.c.aD=(aG*bg.c.aD+a7)%bg.c.aD:=by rw [e]
     rw [hj i,hj aG,Nat.mul_add_div J,Nat.mul_add_div J,oJ h1,oJ bd] at hd;rw [hj i,hj aG,Bi,Bi,np h1,np bd] at hm;omega
    rw [Array.getElem?_setIfInBounds_ne cd];exact aH
def sY (v:Value):Option (List ak):=v.cells.toList.mapM fun x=>yn x
theorem AL {w:World}{S:Nat→Prop}{σ:Nat→Option bQ}{z:Value}{zs:List ak}(h:sY z=some zs):z.cells.size=zs.length∧ ∀j,j<zs.length→bz w S σ (zs.getD j .any) (z.cells.getD j undef)∧(z.cells.getD j undef).oneCell'=true:=by
 unfold sY at h;have key: ∀(l:List Value) (zs:List ak),l.mapM (fun x=>yn x)=some zs→l.length=zs.length∧ ∀j,j<zs.length→bz w S σ (zs.getD j .any) (l.getD j undef)∧(l.getD j undef).oneCell'=true:=by
  intro l;induction l with
  |nil=>intro zs h;simp at h;subst h;exact ⟨rfl,fun j ae=>by simp at ae⟩
  |cons x r ba=>
   intro zs h;simp only [List.mapM_cons] at h;cases U:yn x with
   |none=>simp [U] at h
   |some y=>
    cases ab:r.mapM (fun x=>yn x) with
    |none=>simp [U,ab] at h
    |some wR=>
     simp [U,ab] at h;subst h;obtain ⟨i1,i2⟩:=ba wR ab;refine ⟨by simp [i1],fun j ae=> ?_⟩;cases j with
     |zero=>exact KE U
     |succ j=>simpa using i2 j (by simpa using ae)
 obtain ⟨ee,fg⟩:=key _ _ h;refine ⟨by simpa using ee,fun j ae=> ?_⟩;have:=fg j ae;have e:z.cells.toList.getD j undef=z.cells.getD j undef:=by
  have bD:j<z.cells.size:=by simp at ee;omega
  simp [List.getD,Array.getD,bD]
 rwa [e] at this
def jE (n:Nat):List ak→Cells
 |[.int k 0]=> .ints k (List.replicate n 0)
 |[.str []]=> .strs (List.replicate n [])
 |zs=> .fn n zs.length (fun _ j=>zs.getD j .any)
theorem NF (n:Nat)(zs:List ak):(jE n zs).len=n∧(jE n zs).aD=zs.length∧ ∀i j,i<n→j<zs.length→(jE n zs).at i j=zs.getD j .any:=by
 have bZ:= ‹bA›;unfold jE;split
 ·refine ⟨by simp [Cells.len],I,fun i j aa ae=> ?_⟩;simp only [gK,lv] at ae;have:j=0:=J;subst this;simp [Cells.at,List.getD,aa]
 ·refine ⟨by simp [Cells.len],I,fun i j aa ae=> ?_⟩;simp only [gK,lv] at ae;have:j=0:=J;subst this;simp [Cells.at,List.getD,aa]
 ·exact ⟨I,I,fun i j aa ae=>rfl⟩
theorem acu (z:Array Value)(n s:Nat)(av:z.size=s)(i j:Nat)(aa:i<n)(ae:j<s):(madeCells z (n*s))[i*s+j]? =some (z.getD j undef):=by
 have bZ:= ‹bA›;have bD:i*s+j<n*s:=by have:(i+1)*s≤n*s:=er _ J;rw [dK] at this;omega
 have hm:(i*s+j)%s=j:=by rw [hj,Bi];exact np ae
 subst av;simp [madeCells,bD,hm,Array.getD,ae]
theorem mf {all:Array Oper}{d:Nat}{t e:TypeId}{x y:Operand}{ty:TypeId}{pos:String}{after:Array Edge}{rest:List Oper}{inf:TypeInfo}{z:Value}{zs:List ak}{n m:Int}{ee fg:IntKind}(bu:P.underlying t=some (.slice e))(aa:P.info? e=some inf)(bw:inf.zero=some z)(cz:inf.size=zs.length)(j1:sY z=some zs)(e1:Nat.blt 0 zs.length=true)(ar:bG fr x=some (.int ee n))(a1:bG fr y=some (.int fg m))(al:0≤n∧n≤m∧(inf.bytes:Int)*m≤281474976710656∧m≤9223372036854775807)(an:aj P fn c (.ops false all rest k) ((d,.aC H.length 0 n.toNat)::fr) (H++[some ⟨e,jE m.toNat zs⟩])):aj P fn c (.ops false all (⟨some d,.makeSlice t x y,ty,pos,after,none⟩::rest) k) fr H:=by
 refine rZ (fun w a σ S ad=> ?_) an;obtain ⟨ku,z2,z3⟩:=NF m.toNat zs;obtain ⟨gu,h7⟩:=AL (w:=w) (S:=S) (σ:=σ) j1;have dR:=run_make (P:=P) w t e inf z bu aa bw ee fg n m al.1 al.2.1 al.2.2.1 al.2.2.2;have B2:0<zs.length:=iv e1;refine ⟨.slice (some ⟨w.heap.size,0,none⟩) n.toNat m.toNat,_,_,S,?_,ad.alloc (o:=⟨e,jE m.toNat zs⟩) (C:=m.toNat) (cur:=madeCells z.cells (m.toNat*inf.size)) (by simp [ku]) (by unfold maxLen;omega) (by simp [z2,size_madeCells,cz]) (fun i j aa ae=> ?_),?_⟩
 ·rotate_left
  ·simp [execOp,ad.ff ar,ad.ff a1,dR]
 ·simp only [ku] at aa;simp only [z2] at ae⊢;rw [cz,acu z.cells m.toNat zs.length gu i j aa ae,z3 i j aa ae];exact ⟨_,I,(h7 j ae).1,(h7 j ae).2⟩
 ·have:=bz.aC (w:=w.alloc (.cells (madeCells z.cells (m.toNat*inf.size)) e (0,0))) (S:=S) (cN σ H.length (.at w.heap.size zs.length m.toNat)) H.length 0 n.toNat w.heap.size zs.length m.toNat m.toNat (by simp [cN]) J J;simpa [z2] using this
end
end Go.aj
namespace Go.aj
variable [bA]
open Go.RowKit
def qe (w:World)(S:Nat→Prop)(σ:Nat→Option bQ)(cs:Array Value)(L:List ak):Prop:=
 cs.size=L.length∧ ∀j,j<L.length→bz w S σ (L.getD j .any) (cs.getD j undef)∧(cs.getD j undef).oneCell'=true
def ak.vY:ak→Option (List ak)
 | .agg l=>some l
 | .cn _=>none
 | .any=>none
 |v=>some [v]
theorem V9 {w:World}{S:Nat→Prop}{σ:Nat→Option bQ}{v:ak}{x:Value}{L:List ak}(h:bz w S σ v x)(aw:v.vY=some L):qe w S σ x.cells L:=by
 have one:v.vY=some [v]→v.one=true→qe w S σ x.cells L:=by
  intro U ab;rw [U] at aw;simp only [dC] at aw;subst aw;have ay:=h.one ab;have Es:x.cells= #[x]:=by cases x<;>first|rfl|cases ay
  rw [Es];refine ⟨I,fun j ae=> ?_⟩;simp only [gK,lv] at ae;have:j=0:=J;subst this;exact ⟨h,ay⟩
 cases h with
 |agg _ l vs au ai U=>
  simp only [ak.vY,dC] at aw;subst aw;exact ⟨au,fun j ae=>⟨ai j ae,U j ae⟩⟩
 |cn=>simp [ak.vY] at aw
 |any=>simp [ak.vY] at aw
 |_=>exact one rfl rfl
def A0 (L:List ak)(o:Nat):List ak→List ak
 |[]=>L
 |v::r=>A0 (L.set o v) (o+1) r
theorem alw (L:List ak)(o:Nat)(l:List ak):(A0 L o l).length=L.length:=by
 have bZ:= ‹bA›;induction l generalizing L o with
 |nil=>rfl
 |cons v r ba=>simp [A0,ba]
theorem ZU {w:World}{S:Nat→Prop}{σ:Nat→Option bQ}{cs:Array Value}{L:List ak}{o:Nat}{v:ak}{x:Value}(h:qe w S σ cs L)(ai:bz w S σ v x)(U:x.oneCell'=true):qe w S σ (cs.setIfInBounds o x) (L.set o v):=by
 have bZ:= ‹bA›;refine ⟨by simp [h.1],fun j ae=> ?_⟩;have bd:j<L.length:=by simpa using ae
 by_cases he:o=j
 ·subst he;have:o<cs.size:=by rw [h.1];exact bd
  simp only [List.getD,oH bd,px];simp [this,ai,U]
 ·obtain ⟨a,b⟩:=h.2 j bd;simp only [List.getD,lV he];have e:(cs.setIfInBounds o x).getD j undef=cs.getD j undef:=by simp [Array.getElem?_setIfInBounds_ne he]
  rw [e];exact ⟨by simpa [List.getD] using a,b⟩
theorem Yw {w:World}{S:Nat→Prop}{σ:Nat→Option bQ}{o:Nat}: ∀(xs:List Value) (l:List ak) (k:Nat) (cs:Array Value) (L:List ak),qe w S σ cs L→xs.length=l.length→
 (∀j,j<l.length→bz w S σ (l.getD j .any) (xs.getD j undef)∧(xs.getD j undef).oneCell'=true)→
 qe w S σ ((xs.zipIdx k).foldl (fun cs (c,j)=>cs.setIfInBounds (o+j) c) cs) (A0 L (o+k) l)
 |[],[],_,cs,L,h,_,_=>h
 |x::xs,v::l,k,cs,L,h,au,ai=>by simp only [List.zipIdx_cons,List.foldl_cons,A0];have aU:=ai 0 bX;exact Yw xs l (k+1) _ _ (ZU h (by simpa using aU.1) (by simpa using aU.2)) (by simpa using au) (fun j ae=>by simpa using ai (j+1) (by simpa using ae))
 |[],_::_,_,_,_,_,au,_=>by simp at au
 |_::_,[],_,_,_,_,au,_=>by simp at au
def nV (w:World)(S:Nat→Prop)(σ:Nat→Option bQ):List (Nat×ak)→List (Nat×Value)→Prop
 |[],[]=>True
 |(i,v)::r,(aG,x)::dB=>i=aG∧bz w S σ v x∧nV w S σ r dB
 |_,_=>False
def rQ (place:Nat→Option (Nat×Nat))(L:List ak):List (Nat×ak)→Option (List ak)
 |[]=>some L
 |(i,v)::r=>
  match place i with
  |none=>none
  |some (o,s)=>
   match v.vY with
   |none=>none
   |some l=>bif Nat.beq l.length s && Nat.ble (o+s) L.length then rQ place (A0 L o l) r else none
theorem Jw {w:World}{S:Nat→Prop}{σ:Nat→Option bQ}{place:Nat→Option (Nat×Nat)}: ∀(iP:List (Nat×ak)) (gE:List (Nat×Value)) (cs:Array Value) (L oB:List ak),qe w S σ cs L→
 nV w S σ iP gE→rQ place L iP=some oB→ ∃mn,Instr.fill place cs gE=some mn∧qe w S σ mn oB
 |[],_::_,cs,L,oB,h,aQ,he=>aQ.elim
 |_::_,[],cs,L,oB,h,aQ,he=>aQ.elim
 |[],[],cs,L,oB,h,aQ,he=>by simp only [rQ,dC] at he;subst he;exact ⟨cs,I,h⟩
 |(i,v)::iP,(aG,x)::gE,cs,L,oB,h,aQ,he=>by
  obtain ⟨aH,U,ab⟩:=aQ;subst aH;simp only [rQ] at he;cases aF:place i with
  |none=>simp [aF] at he
  |some os=>
   obtain ⟨o,s⟩:=os;simp only [aF] at he;cases aw:v.vY with
   |none=>simp [aw] at he
   |some l=>
    simp only [aw] at he;cases al:(Nat.beq l.length s && Nat.ble (o+s) L.length) with
    |false=>simp [al] at he
    |true=>
     simp only [al,lU] at he;simp only [eb] at al;have ei:l.length=s:=pC al.1;have ew:o+s≤L.length:=iv al.2;have a8:=V9 U aw;have cz:x.cells.size=s:=by rw [a8.1,ei]
     have aI: ¬((x.cells.size≠s||o+x.cells.size>cs.size)=true):=by rw [cz,h.1];simp;omega
     have uH:qe w S σ (x.cells.zipIdx.foldl (fun cs (c,j)=>cs.setIfInBounds (o+j) c) cs) (A0 L o l):=by
      rw [←Array.foldl_toList,Array.toList_zipIdx];refine Yw (o:=o) x.cells.toList l 0 cs L h (by simpa using a8.1) (fun j ae=> ?_);have e:x.cells.toList.getD j undef=x.cells.getD j undef:=by
       have bD:j<x.cells.size:=by rw [a8.1];exact ae
       simp [List.getD,Array.getD,bD]
      rw [e];exact a8.2 j ae
     obtain ⟨mn,g1,g2⟩:=Jw iP gE _ _ oB uH ab he;refine ⟨mn,?_,g2⟩;simp only [Instr.fill,aF];rw [ax aI];exact g1
section
variable {P:Program}{fn:Func}{c:Ctx}{fr:Fr}{H:aZ}{k:List eF}
def qQ (fr:Fr):List (Nat×Operand)→Option (List (Nat×ak))
 |[]=>some []
 |(i,x)::r=>match bG fr x with
  |some v=>match qQ fr r with
   |some l=>some ((i,v)::l)
   |none=>none
  |none=>none
theorem IW {w:World}{a:Act}{σ:Nat→Option bQ}{S:Nat→Prop}{n:Nat}(ad:cc c w a σ S n fr H): ∀(iP:List (Nat×Operand)) (l:List (Nat×ak)),qQ fr iP=some l→
 nV w S σ l (iP.map fun (i,x)=>(i,a.eval x))
 |[],l,h=>by simp [qQ] at h;subst h;exact trivial
 |(i,x)::r,l,h=>by
  simp only [qQ] at h;cases U:bG fr x with
  |none=>simp [U] at h
  |some v=>
   cases ab:qQ fr r with
   |none=>simp [U,ab] at h
   |some hq=>
    simp [U,ab] at h;subst h;exact ⟨I,ad.dL U,IW ad r hq ab⟩
def JP (P:Program)(t:TypeId):Option (Nat→Option (Nat×Nat)):=
 match P.underlying t with
 |some (.array _ e)=>match P.info? e with
  |some Ia=>some (fun i=>some (i*Ia.size,Ia.size))
  |none=>none
 |some (.struct fields)=>match fields.toList.mapM (fun f=>(P.info? f.type).map fun i=>(f.offset,i.size)) with
  |some places=>some (places.toArray[·]?)
  |none=>none
 |_=>none
theorem iZ {ind:Bool}{d:Option Nat}{ty:TypeId}{pos:String}{after:Array Edge}{g:Option (Nat×Bool)}{t:TypeId}{parts:List (Nat×Operand)}{it:TypeInfo}{z:Value}{zs L:List ak}{l:List (Nat×ak)}{pl:Nat→Option (Nat×Nat)}(aa:P.info? t=some it)(bw:it.zero=some z)(j1:sY z=some zs)(gX:JP P t=some pl)(au:qQ fr parts=some l)(aQ:rQ pl zs l=some L):
 b1 ind P fn c fr H ⟨d,.build t parts.toArray,ty,pos,after,g⟩ (.agg L):=by
 intro w a σ S ad;obtain ⟨gu,h7⟩:=AL (w:=w) (S:=S) (σ:=σ) j1;obtain ⟨mn,g1,g2⟩:=Jw l _ z.cells zs L ⟨gu,h7⟩ (IW ad parts l au) aQ;refine ⟨.agg mn,.agg _ _ _ g2.1 (fun i aa=>(g2.2 i aa).1) (fun i aa=>(g2.2 i aa).2),fun w' _=> ?_⟩;have al:P.built t ((parts.toArray.map fun (i,x)=>(i,a.eval x)).toList)=some mn:=by
  have e:(parts.toArray.map fun (i,x)=>(i,a.eval x)).toList=parts.map fun (i,x)=>(i,a.eval x):=bX;rw [e];unfold JP at gX;unfold Program.built;cases hu:P.underlying t with
  |none=>simp [hu] at gX
  |some u=>
   cases u with
   |array qB gA=>
    simp only [hu] at gX;cases he:P.info? gA with
    |none=>simp [he] at gX
    |some Ia=>
     simp only [he,dC] at gX;subst gX;simp only [aa,bw,he];exact g1
   |struct fields=>
    simp only [hu] at gX;cases he:fields.toList.mapM (fun f=>(P.info? f.type).map fun i=>(f.offset,i.size)) with
    |none=>simp [he] at gX
    |some places=>
     simp only [he,dC] at gX;subst gX;simp only [aa,bw,he];exact g1
   |_=>simp [hu] at gX
 have dR:=run_build (P:=P) w' t (parts.toArray.map fun (i,x)=>(i,a.eval x)) mn al;simp only [execOp,Sem.run_bind,dR,Result.andThen_ok];rfl
def yY:List ak→Option (IntKind×List Int)
 |[]=>none
 |[.int k n]=>some (k,[n])
 | .int k n::r=>match yY r with
  |some (fJ,l)=>match k,fJ with
   | .i64,.i64=>some (k,n::l)
   | .u8,.u8=>some (k,n::l)
   | .u64,.u64=>some (k,n::l)
   | .i32,.i32=>some (k,n::l)
   | .u32,.u32=>some (k,n::l)
   |_,_=>none
  |none=>none
 |_=>none
def yZ:List ak→Option (List (List UInt8))
 |[]=>none
 |[.str n]=>some [n]
 | .str n::r=>match yZ r with
  |some l=>some (n::l)
  |none=>none
 |_=>none
theorem UT: ∀(L:List ak) (k:IntKind) (l:List Int),yY L=some (k,l)→L=l.map (ak.int k)
 |[],k,l,h=>by have bZ:= ‹bA›;simp [yY] at h
 |[v],k,l,h=>by cases v<;>simp [yY] at h;obtain ⟨rfl,rfl⟩:=h;rfl
 |v::v2::r,k,l,h=>by
  cases v<;>simp only [yY] at h<;>try (cases h;done)
  rename_i sA n;cases U:yY (v2::r) with
  |none=>simp [U] at h
  |some MZ=>
   obtain ⟨fJ,hq⟩:=MZ;have ba:=UT (v2::r) fJ hq U;simp only [U] at h;cases sA<;>cases fJ<;>simp at h<;>(obtain ⟨rfl,rfl⟩:=h;simp [ba])
theorem UU: ∀(L:List ak) (l:List (List UInt8)),yZ L=some l→L=l.map ak.str
 |[],l,h=>by have bZ:= ‹bA›;simp [yZ] at h
 |[v],l,h=>by cases v<;>simp [yZ] at h;subst h;rfl
 |v::v2::r,l,h=>by
  cases v<;>simp only [yZ] at h<;>try (cases h;done)
  cases U:yZ (v2::r) with
  |none=>simp [U] at h
  |some hq=>
   have ba:=UU (v2::r) hq U;simp [U] at h;subst h;simp [ba]
def fN (n s:Nat)(L:List ak):Cells:=
 match yY L with
 |some (k,l)=>bif Nat.beq s 1 && Nat.beq l.length n then .ints k l else .fn n s (fun i j=>L.getD (i*s+j) .any)
 |none=>match yZ L with
  |some l=>bif Nat.beq s 1 && Nat.beq l.length n then .strs l else .fn n s (fun i j=>L.getD (i*s+j) .any)
  |none=> .fn n s (fun i j=>L.getD (i*s+j) .any)
theorem VG (n s:Nat)(L:List ak):(fN n s L).len=n∧(fN n s L).aD=s∧ ∀i j,i<n→j<s→(fN n s L).at i j=L.getD (i*s+j) .any:=by
 unfold fN;cases h:yY L with
 |some MZ=>
  obtain ⟨k,l⟩:=MZ;simp only;cases al:(Nat.beq s 1 && Nat.beq l.length n) with
  |false=>exact ⟨rfl,rfl,fun _ _ _ _=>rfl⟩
  |true=>
   simp only [eb] at al;have ei:=pC al.1;have ew:=pC al.2;have cH:=UT L k l h;subst ei ew;refine ⟨I,I,fun i j aa ae=> ?_⟩;have:j=0:=J;subst this;subst cH;simp [Cells.at,List.getD,aa]
 |none=>
  cases ab:yZ L with
  |none=>exact ⟨rfl,rfl,fun _ _ _ _=>rfl⟩
  |some l=>
   simp only;cases al:(Nat.beq s 1 && Nat.beq l.length n) with
   |false=>exact ⟨rfl,rfl,fun _ _ _ _=>rfl⟩
   |true=>
    simp only [eb] at al;have ei:=pC al.1;have ew:=pC al.2;have cH:=UU L l ab;subst ei ew;refine ⟨I,I,fun i j aa ae=> ?_⟩;have:j=0:=J;subst this;subst cH;simp [Cells.at,List.getD,aa]
def rK (zs:List ak):Nat→List ak
 |0=>[]
 |n+1=>zs++rK zs n
theorem NL (zs:List ak)(n:Nat):(rK zs n).length=n*zs.length:=by
 have bZ:= ‹bA›;induction n with
 |zero=>simp [rK]
 |succ n ba=>simp [rK,ba,dK];omega
theorem amj (zs:List ak)(bw:0<zs.length)(n:Nat): ∀j,j<n*zs.length→(rK zs n).getD j .any=zs.getD (j%zs.length) .any:=by
 have bZ:= ‹bA›;induction n with
 |zero=>intro j ae;simp at ae
 |succ n ba=>
  intro j ae;rw [dK] at ae;by_cases h:j<zs.length
  ·rw [np h];simp [rK,List.getD,oK,h]
  ·have e:j%zs.length=(j-zs.length)%zs.length:=by have:j=zs.length+(j-zs.length):=J;rw [this,Nat.add_mod_left];simp
   rw [e,←ba (j-zs.length) J];simp [rK,List.getD,oK,h]
theorem Uu {t e:TypeId}{n:Nat}{parts:List (Nat×Operand)}{it:TypeInfo}{z:Value}{zs L:List ak}{l:List (Nat×ak)}(bu:P.underlying t=some (.slice e))(aa:P.info? e=some it)(bw:it.zero=some z)(j1:sY z=some zs)(cz:it.size=zs.length)(e1:Nat.blt 0 zs.length=true)(x6:Nat.ble (n*zs.length) 16777216=true)(au:qQ fr parts=some l)(aQ:rQ (fun i=>some (i*zs.length,zs.length)) (rK zs n) l=some L){w:World}{a:Act}{σ:Nat→Option bQ}{S:Nat→Prop}(ad:cc c w a σ S fn.ntmps fr H):
 ∃cs,qe w S σ cs L∧cs.size=n*zs.length∧(Instr.buildSlice t n (parts.toArray.map fun (i,x)=>(i,a.eval x))).run P w= .ok (.slice (some ⟨w.heap.size,0,none⟩) n n) (w.alloc (.cells cs e (0,0))):=by
 obtain ⟨gu,h7⟩:=AL (w:=w) (S:=S) (σ:=σ) j1;have B2:0<zs.length:=iv e1;have aqY:n*zs.length≤16777216:=iv x6;have aU:qe w S σ ((Array.range (n*zs.length)).map (z.cells[· %z.cells.size]!)) (rK zs n):=by
  refine ⟨by simp [NL],fun j ae=> ?_⟩;rw [NL] at ae;rw [amj zs B2 n j ae];have hm:j%zs.length<zs.length:=lx _ B2;have aH:((Array.range (n*zs.length)).map (z.cells[· %z.cells.size]!)).getD j undef=z.cells.getD (j%zs.length) undef:=by
   rw [gu];have:j%zs.length<z.cells.size:=by rw [gu];exact hm
   simp [Array.getD,ae,this]
  rw [aH];exact h7 _ hm
 obtain ⟨cs,g1,g2⟩:=Jw l _ _ (rK zs n) L aU (IW ad parts l au) aQ;have cH:L.length=n*zs.length:=by
  have key: ∀(iP:List (Nat×ak)) (M GQ:List ak),rQ (fun i=>some (i*zs.length,zs.length)) M iP=some GQ→GQ.length=M.length:=by
   intro iP;induction iP with
   |nil=>intro M GQ h;simp [rQ] at h;rw [h]
   |cons p r ba=>
    intro M GQ h;obtain ⟨i,v⟩:=p;simp only [rQ] at h;cases aw:v.vY with
    |none=>simp [aw] at h
    |some l=>
     simp only [aw] at h;cases al:(Nat.beq l.length zs.length && Nat.ble (i*zs.length+zs.length) M.length) with
     |false=>simp [al] at h
     |true=>
      simp only [al,lU] at h;rw [ba _ _ h,alw]
  rw [key l _ L aQ,NL]
 refine ⟨cs,g2,by rw [g2.1,cH],?_⟩;have aeW: ¬(16777216<n*zs.length):=J;have wa:Instr.fill (fun i=>some (i*zs.length,zs.length)) ((Array.range (n*zs.length)).map (z.cells[· %z.cells.size]!)) (parts.map fun (i,x)=>(i,a.eval x))=some cs:=g1;by_cases uM:n*zs.length=0
 ·have jW: ∀f:Nat→Value,Array.map f (Array.range 0)= #[]:=fun f=>by apply Array.eq_empty_of_size_eq_zero;simp
  rw [uM,jW] at wa;simp [Instr.buildSlice,run_underlying bu,sizeOf,typeInfo,aa,cz,uM,jW,wa,newRow,newObj,Sem.run]
 ·simp [Instr.buildSlice,run_underlying bu,sizeOf,typeInfo,aa,cz,uM,aeW,zeroValue,bw,wa,newRow,newObj,Sem.run]
theorem u9 {all:Array Oper}{d:Nat}{t e:TypeId}{n:Nat}{parts:List (Nat×Operand)}{ty:TypeId}{pos:String}{after:Array Edge}{rest:List Oper}{it:TypeInfo}{z:Value}{zs L:List ak}{l:List (Nat×ak)}{dY:Cells}(bu:P.underlying t=some (.slice e))(aa:P.info? e=some it)(bw:it.zero=some z)(j1:sY z=some zs)(cz:it.size=zs.length)(e1:Nat.blt 0 zs.length=true)(x6:Nat.ble (n*zs.length) 16777216=true)(au:qQ fr parts=some l)(aQ:rQ (fun i=>some (i*zs.length,zs.length)) (rK zs n) l=some L)(hn:fN n zs.length L=dY)(an:aj P fn c (.ops false all rest k) ((d,.aC H.length 0 n)::fr) (H++[some ⟨e,dY⟩])):aj P fn c (.ops false all (⟨some d,.buildSlice t n parts.toArray,ty,pos,after,none⟩::rest) k) fr H:=by
 refine rZ (fun w a σ S ad=> ?_) an;subst hn;obtain ⟨ku,z2,z3⟩:=VG n zs.length L;obtain ⟨cs,g1,g2,g3⟩:=Uu bu aa bw j1 cz e1 x6 au aQ ad;have aI:n≤n*zs.length:=Nat.le_mul_of_pos_right n (iv e1);have gY:n*zs.length≤16777216:=iv x6;refine ⟨.slice (some ⟨w.heap.size,0,none⟩) n n,_,_,S,?_,ad.alloc (o:=⟨e,fN n zs.length L⟩) (C:=n) (cur:=cs) (by simp [ku]) (by unfold maxLen;omega) (by rw [z2];exact g2) (fun i j aa ae=> ?_),?_⟩
 ·simp only [execOp,Sem.run_bind,g3,Result.andThen_ok];rfl
 ·simp only [ku] at aa;simp only [z2] at ae⊢;have bD:i*zs.length+j<L.length:=by rw [←g1.1,g2];have:(i+1)*zs.length≤n*zs.length:=er _ J;rw [dK] at this;omega
  obtain ⟨gy,a2⟩:=g1.2 _ bD;rw [z3 i j aa ae];refine ⟨cs.getD (i*zs.length+j) undef,?_,gy,a2⟩;have:i*zs.length+j<cs.size:=by rw [g1.1];exact bD
  simp [Array.getD,this]
 ·have:=bz.aC (w:=w.alloc (.cells cs e (0,0))) (S:=S) (cN σ H.length (.at w.heap.size zs.length n)) H.length 0 n w.heap.size zs.length n n (by simp [cN]) J J;simpa [z2] using this
def cM:ak→Bool
 | .aC _ _ _=>false
 | .ptr _ _ _=>false
 | .fn _ l=>eM l
 | .agg l=>eM l
 | .cn l=>eM l
 | .mp _=>false
 |_=>true
where eM:List ak→Bool
 |[]=>true
 |v::r=>cM v && eM r
theorem wX {l:List ak}(h:cM.eM l=true)(i:Nat)(aa:i<l.length):cM (l.getD i .any)=true:=by
 have bZ:= ‹bA›;induction l generalizing i with
 |nil=>simp at aa
 |cons v r ba=>
  simp only [cM.eM,eb] at h;cases i with
  |zero=>simpa using h.1
  |succ i=>simpa using ba h.2 i (by simpa using aa)
theorem bz.closed {w:World}{S:Nat→Prop}{σ:Nat→Option bQ}{x:ak}{v:Value}(h:bz w S σ x v):cM x=true→ ∀bC,bz w S bC x v:=by
 induction h with
 |int=>intros;constructor
 |bool=>intros;constructor
 |str=>intros;constructor
 |nil=>intros;constructor
 |kq=>intros;constructor
 |ro σ c i len b o cap val e9 hlen aw ai U ba=>intro _ bC;exact .ro _ _ _ _ _ _ _ val e9 hlen aw ai U
 |aC=>intro h;cases h
 |ih=>intro h;cases h
 |cK σ c i j b o val e9 aw ai U ba=>intro _ bC;exact .cK _ _ _ _ _ _ val e9 aw ai U
 |ptr=>intro h;cases h
 |pP=>intros;constructor
 |fn σ f cap vs au ai ba=>intro aI bC;exact .fn _ _ _ _ au (fun i aa=>ba i aa (wX aI i aa) _)
 |pO=>intros;constructor
 |iface=>intros;constructor
 |oh=>intros;constructor
 |agg σ l vs au ai U ba=>intro aI bC;exact .agg _ _ _ au (fun i aa=>ba i aa (wX aI i aa) _) U
 |cn σ l vs au ai ba=>intro aI bC;exact .cn _ _ _ au (fun i aa=>ba i aa (wX aI i aa) _)
 |mp=>intro h;cases h
 |hr σ ks vs b es clock e e9 al aI au hd he an ai=>intro _ bC;exact .hr _ _ _ b es clock e e9 al aI au hd he an ai
 |any=>intros;constructor
theorem h9 {all:Array Oper}{d:Nat}{t e:TypeId}{n:Nat}{parts:List (Nat×Operand)}{ty:TypeId}{pos:String}{after:Array Edge}{rest:List Oper}{it:TypeInfo}{z:Value}{zs L:List ak}{l:List (Nat×ak)}{dY:Cells}(bu:P.underlying t=some (.slice e))(aa:P.info? e=some it)(bw:it.zero=some z)(j1:sY z=some zs)(cz:it.size=zs.length)(e1:Nat.blt 0 zs.length=true)(x6:Nat.ble (n*zs.length) 16777216=true)(au:qQ fr parts=some l)(aQ:rQ (fun i=>some (i*zs.length,zs.length)) (rK zs n) l=some L)(hn:fN n zs.length L=dY)(aI:cM.eM L=true)(an:aj P fn c (.ops false all rest k) ((d,.ro dY 0 n)::fr) H):aj P fn c (.ops false all (⟨some d,.buildSlice t n parts.toArray,ty,pos,after,none⟩::rest) k) fr H:=by
 refine rZ (fun w a σ S ad=> ?_) an;subst hn;obtain ⟨ku,z2,z3⟩:=VG n zs.length L;obtain ⟨cs,g1,g2,g3⟩:=Uu bu aa bw j1 cz e1 x6 au aQ ad;have hB: ∀d j,d<n→j<zs.length→(w.alloc (.cells cs e (0,0))).cell? ⟨w.heap.size,0+d*zs.length+j,none⟩=some (cs.getD (d*zs.length+j) undef)∧bz w S σ (L.getD (d*zs.length+j) .any) (cs.getD (d*zs.length+j) undef)∧(cs.getD (d*zs.length+j) undef).oneCell'=true∧d*zs.length+j<L.length:=by
  intro d j hd ae;have bD:d*zs.length+j<L.length:=by rw [←g1.1,g2];have:(d+1)*zs.length≤n*zs.length:=er _ J;rw [dK] at this;omega
  obtain ⟨gy,a2⟩:=g1.2 _ bD;have ay:d*zs.length+j<cs.size:=by rw [g1.1];exact bD
  refine ⟨?_,gy,a2,bD⟩;have:=heap_alloc_new w (.cells cs e (0,0));unfold World.cell?;simp only [this];simp [Array.getD,ay]
 refine ⟨.slice (some ⟨w.heap.size,0,none⟩) n n,_,σ,_,?_,ad.ZP (.cells cs e (0,0)),?_⟩
 ·simp only [execOp,Sem.run_bind,g3,Result.andThen_ok];rfl
 ·refine .ro _ _ _ _ _ _ _ (fun d j=>cs.getD (d*zs.length+j) undef) (.inr I) (bT _) (fun d j hd ae=> ?_) (fun d j hd ae=> ?_) (fun d j hd ae=> ?_)
  ·rw [z2] at ae⊢;exact (hB d j hd ae).1
  ·rw [z2] at ae;rw [cT,z3 d j hd ae];obtain ⟨_,ab,_,bf⟩:=hB d j hd ae;have bL:=ab.closed (wX aI _ bf) (fun _=>none);exact bL.mono (fun _ h=> .inl h) (fun b al=>Below.heap_alloc _ _ b (ad.ad.small b al)) _ (fun _ _ h=>h)
  ·rw [z2] at ae;exact (hB d j hd ae).2.2.1
end
end Go.aj
namespace Go.aj
variable [bA]
open Go.RowKit
mutual
def ak.forget (h:Nat):ak→ak
 | .aC aS i n=>bif Nat.beq aS h then .any else .aC aS i n
 | .ptr aS i j=>bif Nat.beq aS h then .any else .ptr aS i j
 | .fn f l=> .fn f (ak.kj h l)
 | .agg l=> .agg (ak.kj h l)
 | .cn l=> .cn (ak.kj h l)
 | .mp aS=>bif Nat.beq aS h then .any else .mp aS
 |v=>v
def ak.kj (h:Nat):List ak→List ak
 |[]=>[]
 |v::r=>v.forget h::ak.kj h r
end
theorem sF (h:Nat)(l:List ak):(ak.kj h l).length=l.length:=by
 have bZ:= ‹bA›;induction l with
 |nil=>rfl
 |cons v r ba=>simp [ak.kj,ba]
theorem Cy (h:Nat)(l:List ak)(i:Nat)(aa:i<l.length):(ak.kj h l).getD i .any=(l.getD i .any).forget h:=by
 have bZ:= ‹bA›;induction l generalizing i with
 |nil=>simp at aa
 |cons v r ba=>cases i with
  |zero=>rfl
  |succ i=>simpa [ak.kj] using ba i (by simpa using aa)
theorem bz.forget {w:World}{S:Nat→Prop}{σ:Nat→Option bQ}{x:ak}{v:Value}{h:Nat}(ai:bz w S σ x v): ∀bC,(∀aS,aS≠h→bC aS=σ aS)→bz w S bC (x.forget h) v:=by
 induction ai with
 |int=>intros;constructor
 |bool=>intros;constructor
 |str=>intros;constructor
 |nil=>intros;constructor
 |kq=>intros;constructor
 |ro σ c i len b o cap val e9 hlen aw ai U ba=>intro bC _;exact .ro _ _ _ _ _ _ _ val e9 hlen aw ai U
 |aC σ aS i len b s C cap bJ hlen jX=>
  intro bC av;simp only [ak.forget];by_cases he:aS=h
  ·subst he;simp only [pD,lU];exact .any _ _
  ·simp only [dv he,oF];exact .aC _ _ _ _ _ _ _ _ (by rw [av aS he];exact bJ) hlen jX
 |ih σ aS bJ=>
  intro bC av;simp only [ak.forget];by_cases he:aS=h
  ·subst he;simp only [pD,lU];exact .any _ _
  ·simp only [dv he,oF];exact .ih _ _ (by rw [av aS he];exact bJ)
 |cK σ c i j b o val e9 aw ai U ba=>intro bC _;exact .cK _ _ _ _ _ _ val e9 aw ai U
 |ptr σ aS i j b s C bJ=>
  intro bC av;simp only [ak.forget];by_cases he:aS=h
  ·subst he;simp only [pD,lU];exact .any _ _
  ·simp only [dv he,oF];exact .ptr _ _ _ _ _ _ _ (by rw [av aS he];exact bJ)
 |pP=>intros;constructor
 |fn σ f cap vs au ai ba=>intro bC av;exact .fn _ _ _ _ (by rw [sF];exact au) (fun i aa=>by rw [sF] at aa;rw [Cy h cap i aa];exact ba i aa bC av)
 |pO=>intros;constructor
 |iface=>intros;constructor
 |oh=>intros;constructor
 |agg σ l vs au ai U ba=>intro bC av;exact .agg _ _ _ (by rw [sF];exact au) (fun i aa=>by rw [sF] at aa;rw [Cy h l i aa];exact ba i aa bC av) (fun i aa=>U i (by rwa [sF] at aa))
 |cn σ l vs au ai ba=>intro bC av;exact .cn _ _ _ (by rw [sF];exact au) (fun i aa=>by rw [sF] at aa;rw [Cy h l i aa];exact ba i aa bC av)
 |mp σ aS b bJ=>
  intro bC av;simp only [ak.forget];by_cases he:aS=h
  ·subst he;simp only [pD,lU];exact .any _ _
  ·simp only [dv he,oF];exact .mp _ _ _ (by rw [av aS he];exact bJ)
 |hr σ ks vs b es clock e e9 al aI au hd he an ai=>intro bC av;exact .hr _ _ _ b es clock e e9 al aI au hd he an ai
 |any=>intros;constructor
def Cells.forget (h:Nat):Cells→Cells
 | .ints k l=> .ints k l
 | .strs l=> .strs l
 | .box l=> .box (ak.kj h l)
 | .mp ks vs=> .mp (ak.kj h ks) (ak.kj h vs)
 | .fn n s f=> .fn n s (fun i j=>(f i j).forget h)
theorem Cells.zA (h:Nat)(c:Cells):(c.forget h).len=c.len:=by have bZ:= ‹bA›;cases c<;>rfl
theorem Cells.Hj (h:Nat)(c:Cells):(c.forget h).aD=c.aD:=by cases c<;>first|rfl|exact sF _ _
theorem Cells.Hi (h:Nat)(c:Cells)(i j:Nat)(ae:j<c.aD):(c.forget h).at i j=(c.at i j).forget h:=by
 cases c with
 |box l=>exact Cy h l j ae
 |_=>rfl
def ja (h:Nat):Option bl→Option bl
 |some o=>some ⟨o.ty,o.c.forget h⟩
 |none=>none
def c7 (h:Nat):aZ→aZ
 |[]=>[]
 |o::r=>ja h o::c7 h r
def ou (h:Nat):Fr→Fr
 |[]=>[]
 |(t,v)::r=>(t,v.forget h)::ou h r
theorem I3 (h:Nat)(H:aZ)(i:Nat):(c7 h H)[i]? =(H[i]?).map (ja h):=by
 have bZ:= ‹bA›;induction H generalizing i with
 |nil=>simp [c7]
 |cons o r ba=>cases i with
  |zero=>simp [c7]
  |succ i=>simpa [c7] using ba i
theorem va (h:Nat)(H:aZ):(c7 h H).length=H.length:=by
 have bZ:= ‹bA›;induction H with
 |nil=>rfl
 |cons o r ba=>simp [c7,ba]
theorem Fv (h:Nat)(fr:Fr)(t:Nat):look t (ou h fr)=(look t fr).map (ak.forget h):=by
 have bZ:= ‹bA›;induction fr with
 |nil=>rfl
 |cons p r ba=>
  obtain ⟨u,v⟩:=p;simp only [ou,look];cases Nat.beq t u<;>simp [ba]
theorem Lays.forget {w w':World}{S ca:Nat→Prop}{σ bC:Nat→Option bQ}{t:TypeId}{c:Cells}{b:Nat}{cur:Array Value}{C:Nat}{h:Nat}(al:w'.heap[b]? =w.heap[b]?)(ai: ∀{x v},bz w S σ x v→bz w' ca bC (x.forget h) v)(cH:Lays w S σ ⟨t,c⟩ b cur C):Lays w' ca bC ⟨t,c.forget h⟩ b cur C:=by
 have bZ:= ‹bA›;cases cH with
 |row mk h hm ed=>exact .row mk (by rw [al];exact h) hm ed
 |map ks vs es clock aw ed h aI au hd he=>
  simp only at aw;subst aw;exact .map _ _ es clock I ed (by rw [al];exact h) (by rw [sF];exact aI) (by rw [sF,sF];exact au) hd (fun i aa=>by
   rw [sF] at aa;obtain ⟨e,aH,aJ,bR⟩:=he i aa;exact ⟨e,aH,by rw [Cy _ _ _ aa];exact ai aJ,by rw [Cy _ _ _ J];exact ai bR⟩)
theorem cc.M5 {c:Ctx}{w w':World}{a:Act}{σ:Nat→Option bQ}{S:Nat→Prop}{n:Nat}{fr:Fr}{H:aZ}(ad:cc c w a σ S n fr H){h:Nat}{o:bl}(aV:H[h]? =some (some o)){c':Cells}{b C:Nat}{cur:Array Value}{mk:Nat×Nat}(EO:w'.os=w.os)(EP:w'.output=w.output)(EX:w'.tape=w.tape)(z6:w.heap.size≤w'.heap.size)(cz:c'.aD=o.c.aD)(pF: ∀b',b'<w.heap.size→b'≠b→w'.heap[b']? =w.heap[b']?)(al:w'.heap[b]? =some (.cells cur o.ty mk))(jf:cur.size=C*c'.aD)(ed:C≤maxLen)(hlen:c'.len≤C)(BN:w.heap.size≤b∨σ h=some (.at b o.c.aD C))(bI: ¬c.fix h∨σ h=some (.at b o.c.aD C))(aw: ∀i j,i<c'.len→j<c'.aD→ ∃v,cur[i*c'.aD+j]? =some v∧bz w S σ (c'.at i j) v∧v.oneCell'=true)(uN: ∀i j,i<c'.len→j<c'.aD→(c'.at i j).forget h=c'.at i j)(lF:mk.2≤mk.1∨cur.size≤mk.1):
 cc c w' a (cN σ h (.at b c'.aD C)) S n (ou h fr) ((c7 h H).set h (some ⟨o.ty,c'⟩)):=by
 have bD:h<H.length:=(hi.1 aV).1;have xW:h<(c7 h H).length:=by rw [va];exact bD
 have e9: ¬S b:=by
  rcases BN with aQ|aQ
  ·intro av;have:=ad.ad.small b av;omega
  ·exact (ad.obj aV aQ).2.choose_spec.2.2.2.2.1
 have dq: ∀b',S b'→w'.heap[b']? =w.heap[b']? :=fun b' av=>pF b' (ad.ad.small b' av) (fun e=>e9 (e▸av));have uP: ∀aS,aS≠h→cN σ h (.at b c'.aD C) aS=σ aS:=fun aS he=>by simp [cN,he]
 have sy: ∀{x v},bz w S σ x v→bz w' S (cN σ h (.at b c'.aD C)) (x.forget h) v:=fun ai=>(ai.forget _ uP).mono (fun _ h=>h) dq _ (fun _ _ h=>h);have c9: ∀aS o',((c7 h H).set h (some ⟨o.ty,c'⟩))[aS]? =some (some o')→(aS=h∧o'=⟨o.ty,c'⟩)∨(aS≠h∧ ∃dp,H[aS]? =some (some dp)∧o'=⟨dp.ty,dp.c.forget h⟩):=by
  intro aS o' ah;by_cases he:aS=h
  ·subst he;simp only [oH xW,dC] at ah;exact .inl ⟨I,ah.symm⟩
  ·rw [lV (q3 he),I3] at ah;cases aB:H[aS]? with
   |none=>simp [aB] at ah
   |some l6=>cases l6 with
    |none=>simp [aB,ja] at ah
    |some dp=>
     simp [aB,ja] at ah;exact .inr ⟨he,dp,I,ah.symm⟩
 have hold: ∀aS dp b' cy cL,aS≠h→H[aS]? =some (some dp)→σ aS=some (.at b' cy cL)→b'≠b∧b'<w.heap.size:=by
  intro aS dp b' cy cL cd ri eA;obtain ⟨_,iV,g,_⟩:=ad.obj ri eA;have U:=g.lt;refine ⟨fun e=> ?_,U⟩;subst e;rcases BN with aQ|aQ
  ·omega
  ·exact cd (ad.ad.hJ aS h dp o b' cy cL o.c.aD C ri aV eA aQ)
 refine ⟨⟨?_,?_,fun b' av=>gL (ad.ad.small b' av) z6,fun aS au=> ?_⟩,?_,ad.defers,ad.size,fun t v au=> ?_⟩
 ·intro aS o' ah;rcases c9 aS o' ah with ⟨rfl,rfl⟩|⟨cd,dp,ri,rfl⟩
  ·right;refine ⟨b,C,cur,by simp [cN],.row mk al lF ed,jf,Nat.le_succ_of_le ed,hlen,e9,fun i j aa ae=> ?_⟩;obtain ⟨v,aH,aJ,bR⟩:=aw i j aa ae;refine ⟨v,aH,?_,bR⟩;have:=sy aJ
   rwa [uN i j aa ae] at this
  ·rcases ad.ad.live aS dp ri with ⟨aI,jA⟩|⟨b',cL,iV,g1,g2,g3,g4,g5,g6,g7⟩
   ·left;exact ⟨by rw [uP aS cd];exact aI,by simpa [Cells.zA] using jA⟩
   ·right;obtain ⟨so,BI⟩:=hold aS dp b' _ cL cd ri g1;simp only [Cells.zA,Cells.Hj];refine ⟨b',cL,iV,by rw [uP aS cd];exact g1,g2.forget (pF b' BI so) sy,g3,g4,g5,g6,fun i j aa ae=> ?_⟩;obtain ⟨v,aH,aJ,bR⟩:=g7 i j aa ae;exact ⟨v,aH,by rw [Cells.Hi h dp.c i j ae];exact sy aJ,bR⟩
 ·intro U ab o1 o2 b' s1 gI s2 gx g1 g2 aH aJ;rcases c9 U o1 g1 with ⟨rfl,rfl⟩|⟨qA,c6,bS,rfl⟩<;>rcases c9 ab o2 g2 with ⟨rfl,rfl⟩|⟨M6,fs,bY,rfl⟩
  ·rfl
  ·simp only [cN,gf,dC,bQ.at.injEq] at aH;rw [uP ab M6] at aJ;exact absurd aH.1.symm (hold ab fs b' s2 gx M6 bY aJ).1
  ·simp only [cN,gf,dC,bQ.at.injEq] at aJ;rw [uP U qA] at aH;exact absurd aJ.1.symm (hold U c6 b' s1 gI qA bS aH).1
  ·rw [uP U qA] at aH;rw [uP ab M6] at aJ;exact ad.ad.hJ U ab _ _ b' s1 gI s2 gx bS bY aH aJ
 ·simp only [dd,va] at au;rw [uP aS J];exact ad.ad.ie aS au
 ·refine ⟨EO.trans ad.bj.os,EP.trans ad.bj.output,EX.trans ad.bj.tape,dN ad.bj.size z6,fun b' eA ah=> ?_,ad.bj.hX,ad.bj.e5,fun aS aQ=> ?_,fun aS aQ=>by simpa [va] using ad.bj.jx aS aQ,?_⟩
  ·have cd:b'≠b:=by
    rintro rfl;rcases BN with aQ|aQ
    ·have:=ad.bj.size;omega
    ·rcases ad.bj.own h o b' _ C aV aQ with U|U
     ·exact ah U
     ·omega
   rw [pF b' (by have:=ad.bj.size;omega) cd];exact ad.bj.block b' eA ah
  ·by_cases he:aS=h
   ·subst he;rcases bI with U|U
    ·exact absurd aQ U
    ·rw [←ad.bj.fixed aS aQ,U];simp [cN,cz]
   ·rw [uP aS he];exact ad.bj.fixed aS aQ
  ·intro aS o' b' cy cL ah eA;rcases c9 aS o' ah with ⟨rfl,rfl⟩|⟨cd,dp,ri,rfl⟩
   ·simp only [cN,gf,dC,bQ.at.injEq] at eA;obtain ⟨rfl,_,_⟩:=eA;rcases BN with aQ|aQ
    ·right;have:=ad.bj.size;omega
    ·exact ad.bj.own aS o b _ C aV aQ
   ·rw [uP aS cd] at eA;exact ad.bj.own aS dp b' cy cL ri eA
 ·rw [Fv] at au;cases aB:look t fr with
  |none=>simp [aB] at au
  |some v0=>
   simp [aB] at au;subst au;exact ⟨(ad.fl t v0 aB).1,sy (ad.fl t v0 aB).2⟩
theorem cc.Tm {c:Ctx}{w w':World}{a:Act}{σ:Nat→Option bQ}{S:Nat→Prop}{n:Nat}{fr:Fr}{H:aZ}(ad:cc c w a σ S n fr H){h:Nat}{o:bl}(aV:H[h]? =some (some o)){c':Cells}{b C:Nat}{cur:Array Value}(EO:w'.os=w.os)(EP:w'.output=w.output)(EX:w'.tape=w.tape)(z6:w.heap.size≤w'.heap.size)(cz:c'.aD=o.c.aD)(pF: ∀b',b'<w.heap.size→b'≠b→w'.heap[b']? =w.heap[b']?)(al:w'.heap[b]? =some (.cells cur o.ty (0,0)))(jf:cur.size=C*c'.aD)(ed:C≤maxLen)(hlen:c'.len≤C)(BN:w.heap.size≤b∨σ h=some (.at b o.c.aD C))(bI: ¬c.fix h∨σ h=some (.at b o.c.aD C))(aw: ∀i j,i<c'.len→j<c'.aD→ ∃v,cur[i*c'.aD+j]? =some v∧bz w S σ (c'.at i j) v∧v.oneCell'=true)(uN: ∀i j,i<c'.len→j<c'.aD→(c'.at i j).forget h=c'.at i j):
 cc c w' a (cN σ h (.at b c'.aD C)) S n (ou h fr) ((c7 h H).set h (some ⟨o.ty,c'⟩)):=
 ad.M5 aV EO EP EX z6 cz pF al jf ed hlen BN bI aw uN (.inl (bT _))
end Go.aj
namespace Go.aj
variable [bA]
open Go.RowKit
theorem Fm (P:Program)(g o:Nat)(t:TypeId)(mk:Nat×Nat): ∀(vs:List Value) (i:Nat) (cur:Array Value) (w:World),w.heap[g]? =some (.cells cur t mk)→(mk.2≤mk.1∨cur.size≤mk.1)→o+i+vs.length≤cur.size→(∀v∈vs,v.oneCell'=true)→
 (storeCells ⟨g,o,none⟩ vs i).run P w= .ok () (w.setRow g (cur.toList.take (o+i)++vs++cur.toList.drop (o+i+vs.length)).toArray)
 |[],i,cur,w,c2,_,_,_=>by have bZ:= ‹bA›;simp only [storeCells,k2,lv,e6,sa,DS];rw [setRow_self w g cur t mk c2];rfl
 |v::rest,i,cur,w,c2,hm,au,U=>by
  have aa:o+i<cur.size:=by simp at au;omega
  have adm:(⟨g,o,none⟩:Addr).add i=⟨g,o+i,none⟩:=Addr.add_lit _ _ _;have oa:w.cell? ⟨g,o+i,none⟩=some cur[o+i]:=by simp [World.cell?,c2,aa]
  have aeb:w.frozen? ⟨g,o+i,none⟩=false:=by simp [World.frozen?,c2];omega
  have dS:(store ((⟨g,o,none⟩:Addr).add i) v).run P w= .ok () (w.setRow g (cur.setIfInBounds (o+i) v)):=by rw [adm,run_store P w _ v _ (U v bX),oa];simp [aeb,setCell_eq_setRow w g (o+i) cur t mk v c2]
  have ba:=Fm P g o t mk rest (i+1) (cur.setIfInBounds (o+i) v) (w.setRow g (cur.setIfInBounds (o+i) v)) (setRow_heap w g cur _ t _ c2) (by simpa using hm) (by simp at au⊢;omega) (fun x ar=>U x (by simp [ar]));simp only [storeCells,Sem.run_bind,dS,Result.andThen_ok,ba,setRow_setRow];congr 3;have e:=list_seg_step cur.toList (o+i) v rest (by simp at au⊢;omega);simpa [Array.toList_setIfInBounds,ju] using e
theorem Um {P:Program}(w:World)(t ty e:TypeId)(inf:TypeInfo)(bu:P.underlying t=some (.slice e))(aa:P.info? e=some inf)(g n cap:Nat)(cur:Array Value){mk:Nat×Nat}(c2:w.heap[g]? =some (.cells cur e mk))(hm:mk.2≤mk.1∨cur.size≤mk.1)(a:Addr)(m c:Nat)(news:List Value)(au:news.length=m*inf.size)(aeS: ∀j u,news[j]? =some u→w.cell? (a.add j)=some u)(U: ∀u∈news,u.oneCell'=true)(x4:n+m≤cap)(su:n*inf.size+news.length≤cur.size):
 (Builtin.append_ #[t,t] ty #[.slice (some ⟨g,0,none⟩) n cap,.slice (some a) m c]).run P w=
  .ok (.slice (some ⟨g,0,none⟩) (n+m) cap) (w.setRow g (cur.toList.take (n*inf.size)++news++cur.toList.drop (n*inf.size+news.length)).toArray):=by have bZ:= ‹bA›;have aQ:=run_firstCells_some (P:=P) w inf.size m a m c news au aeS;have dS:=Fm P g (n*inf.size) e mk news 0 cur w c2 hm (by simpa using su) U;simp only [e6] at dS;simp [Builtin.append_,run_underlying bu,sizeOf,typeInfo,aa,Builtin.lenOf,x4,aQ,Addr.add_lit,dS]
def A6 (H:aZ):ak→Option (Cells×Nat×Nat)
 | .ro c i m=>some (c,i,m)
 | .aC h i m=>match H[h]? with
  |some (some o)=>some (o.c,i,m)
  |_=>none
 | .nil=>some (.ints .i64 [],0,0)
 |_=>none
def Src (w:World)(S:Nat→Prop)(σ:Nat→Option bQ)(c:Cells)(i m:Nat)(x:Value):Prop:=
 (m=0∧ ∃a cap,x= .slice a 0 cap)∨ ∃(ia:Addr) (cap:Nat) (news:List Value),x= .slice (some ia) m cap∧news.length=m*c.aD∧(∀j u,news[j]? =some u→w.cell? (ia.add j)=some u)∧(∀u∈news,u.oneCell'=true)∧
  ∀d j,d<m→j<c.aD→ ∃u,news[d*c.aD+j]? =some u∧bz w S σ (c.at (i+d) j) u
theorem abo {d s j:Nat}(ae:j<s):(d*s+j)/s=d∧(d*s+j)%s=j:=by have bZ:= ‹bA›;rw [hj,Nat.mul_add_div J,Bi,oJ ae,np ae];exact ⟨J,I⟩
theorem cc.src {c:Ctx}{w:World}{a:Act}{σ:Nat→Option bQ}{S:Nat→Prop}{n:Nat}{fr:Fr}{H:aZ}(ad:cc c w a σ S n fr H){v:ak}{x:Value}{dY:Cells}{i m:Nat}(ai:bz w S σ v x)(av:A6 H v=some (dY,i,m))(dV: ∀h,v= .aC h i m→i+m≤dY.len):Src w S σ dY i m x:=by
 cases ai<;>simp only [A6] at av<;>try (cases av;done)
 case nil=>
  simp only [dC,zh] at av;obtain ⟨rfl,rfl,rfl⟩:=av;exact .inl ⟨I,none,0,I⟩
 case kq c' aG nn cap=>
  simp only [dC,zh] at av;obtain ⟨rfl,rfl,rfl⟩:=av;exact .inl ⟨I,nn,cap,I⟩
 case ro c' aG len b o cap val dq hlen aw ai U=>
  simp only [dC,zh] at av;obtain ⟨rfl,rfl,rfl⟩:=av;right;refine ⟨⟨b,o,none⟩,cap,(List.range (len*c'.aD)).map (fun t=>val (t/c'.aD) (t%c'.aD)),I,bX,?_,?_,?_⟩
  ·intro j u hu;have ae:j<len*c'.aD:=by simpa using (hi.1 hu).1
   have e1:0<c'.aD:=zi (fun h=>by rw [h] at ae;simp at ae);have hd:j/c'.aD<len:=(Nat.div_lt_iff_lt_mul e1).2 ae;have hm:j%c'.aD<c'.aD:=lx _ e1;simp only [ly,vM ae,ta,dC] at hu;subst hu;have:=aw (j/c'.aD) (j%c'.aD) hd hm;rw [Addr.add_lit];have e:o+j/c'.aD*c'.aD+j%c'.aD=o+j:=by rw [ju,Nat.div_add_mod']
   rwa [e] at this
  ·intro u hu;obtain ⟨t,bu,rfl⟩:=cO.1 hu;have ae:t<len*c'.aD:=by simpa using bu
   have e1:0<c'.aD:=zi (fun h=>by rw [h] at ae;simp at ae);exact U _ _ ((Nat.div_lt_iff_lt_mul e1).2 ae) (lx _ e1)
  ·intro d j hd ae;obtain ⟨aH,aJ⟩:=abo (d:=d) ae;have bD:d*c'.aD+j<len*c'.aD:=by have:(d+1)*c'.aD≤len*c'.aD:=er _ J;rw [dK] at this;omega
   refine ⟨val d j,by simp [bD,aH,aJ],(ai d j hd ae).mono (fun _ h=>h) (fun _ _=>rfl) _ (fun _ _ h=>by cases h)⟩
 case aC h aG len b s C cap hlen jX bJ=>
  cases aB:H[h]? with
  |none=>simp [aB] at av
  |some l6=>cases l6 with
   |none=>simp [aB] at av
   |some o=>
    simp only [aB,dC,zh] at av;obtain ⟨rfl,rfl,rfl⟩:=av;have BS:=dV h rfl;obtain ⟨gY,cur,g1,g2,g3,g4,g5,g6⟩:=ad.obj aB bJ;subst gY;by_cases oe:o.c.aD=0
    ·by_cases hm:len=0
     ·subst hm;exact .inl ⟨rfl,_,_,rfl⟩
     right;refine ⟨⟨b,aG*o.c.aD,none⟩,cap,[],I,by simp [oe],fun j u hu=>by simp at hu,fun u hu=>by simp at hu,fun d j hd ae=>by omega⟩
    obtain ⟨mk,g1,_,_⟩:=g1.cells oe;by_cases hm:len=0
    ·subst hm;exact .inl ⟨rfl,_,_,rfl⟩
    right;have iW: ∀t,t<len*o.c.aD→aG*o.c.aD+t<cur.size:=by intro t bu;rw [g2];have:(aG+len)*o.c.aD≤C*o.c.aD:=er _ J;rw [dK] at this;omega
    refine ⟨⟨b,aG*o.c.aD,none⟩,cap,(List.range (len*o.c.aD)).map (fun t=>cur.getD (aG*o.c.aD+t) undef),I,bX,?_,?_,?_⟩
    ·intro j u hu;have ae:j<len*o.c.aD:=by simpa using (hi.1 hu).1
     simp only [ly,vM ae,ta,dC] at hu;subst hu;have:=iW j ae;simp [World.cell?,Addr.add_lit,g1,Array.getD,this]
    ·intro u hu;obtain ⟨t,bu,rfl⟩:=cO.1 hu;have ae:t<len*o.c.aD:=by simpa using bu
     have e1:0<o.c.aD:=zi (fun h=>by rw [h] at ae;simp at ae);have hd:t/o.c.aD<len:=(Nat.div_lt_iff_lt_mul e1).2 ae;obtain ⟨v,aH,_,bR⟩:=g6 (aG+t/o.c.aD) (t%o.c.aD) J (lx _ e1);have e:(aG+t/o.c.aD)*o.c.aD+t%o.c.aD=aG*o.c.aD+t:=by rw [dK,ju,Nat.div_add_mod']
     rw [e] at aH;simp [aH,bR]
    ·intro d j hd ae;obtain ⟨v,aH,aJ,_⟩:=g6 (aG+d) j J ae;have bD:d*o.c.aD+j<len*o.c.aD:=by have:(d+1)*o.c.aD≤len*o.c.aD:=er _ J;rw [dK] at this;omega
     have e:(aG+d)*o.c.aD+j=aG*o.c.aD+(d*o.c.aD+j):=by rw [dK];omega
     rw [e] at aH;exact ⟨v,by simp [bD,aH],aJ⟩
 case ih h bJ=>
  cases aB:H[h]? with
  |none=>simp [aB] at av
  |some l6=>cases l6 with
   |none=>simp [aB] at av
   |some o=>
    simp only [aB,dC,zh] at av;obtain ⟨rfl,rfl,rfl⟩:=av;exact .inl ⟨I,none,0,I⟩
def Cells.app (c:Cells)(ec:Cells)(i m:Nat):Option Cells:=
 match c,ec with
 | .ints k l,.ints fJ hq=>match k,fJ with
  | .i64,.i64=>some (.ints k (l++(hq.drop i).take m))
  | .u8,.u8=>some (.ints k (l++(hq.drop i).take m))
  | .u64,.u64=>some (.ints k (l++(hq.drop i).take m))
  | .i32,.i32=>some (.ints k (l++(hq.drop i).take m))
  | .u32,.u32=>some (.ints k (l++(hq.drop i).take m))
  |_,_=>none
 | .strs l,.strs hq=>some (.strs (l++(hq.drop i).take m))
 |c,ec=>bif Nat.beq c.aD ec.aD then some (.fn (c.len+m) c.aD (fun aG j=>bif Nat.blt aG c.len then c.at aG j else ec.at (i+(aG-c.len)) j)) else none
theorem Cells.ZT {c ec c':Cells}{i m:Nat}(h:c.app ec i m=some c')(dV:i+m≤ec.len):c'.aD=c.aD∧ec.aD=c.aD∧c'.len=c.len+m∧(∀aG j,aG<c.len→j<c.aD→c'.at aG j=c.at aG j)∧ ∀d j,d<m→j<c.aD→c'.at (c.len+d) j=ec.at (i+d) j:=by
 have bZ:= ‹bA›;have gen:c'= .fn (c.len+m) c.aD (fun aG j=>bif Nat.blt aG c.len then c.at aG j else ec.at (i+(aG-c.len)) j)→c.aD=ec.aD→
  c'.aD=c.aD∧ec.aD=c.aD∧c'.len=c.len+m∧(∀aG j,aG<c.len→j<c.aD→c'.at aG j=c.at aG j)∧ ∀d j,d<m→j<c.aD→c'.at (c.len+d) j=ec.at (i+d) j:=by
  intro e av;subst e;refine ⟨I,av.symm,I,fun aG j aa ae=> ?_,fun d j hd ae=> ?_⟩
  ·have:Nat.blt aG c.len=true:=q4 aa;simp [Cells.at,this]
  ·have:Nat.blt (c.len+d) c.len=false:=by
    cases al:Nat.blt (c.len+d) c.len with
    |false=>rfl
    |true=>have:=iv al;omega
   simp [Cells.at,this]
 have Ee:(bif Nat.beq c.aD ec.aD then some (Cells.fn (c.len+m) c.aD (fun aG j=>bif Nat.blt aG c.len then c.at aG j else ec.at (i+(aG-c.len)) j)) else none)=some c'→
  c'.aD=c.aD∧ec.aD=c.aD∧c'.len=c.len+m∧(∀aG j,aG<c.len→j<c.aD→c'.at aG j=c.at aG j)∧ ∀d j,d<m→j<c.aD→c'.at (c.len+d) j=ec.at (i+d) j:=by
  intro h;cases al:Nat.beq c.aD ec.aD with
  |false=>simp [al] at h
  |true=>simp only [al,lU,dC] at h;exact gen h.symm (pC al)
 cases c with
 |ints k l=>
  cases ec with
  |ints fJ hq=>
   have:c'= .ints k (l++(hq.drop i).take m)∧k=fJ:=by simp only [Cells.app] at h;cases k<;>cases fJ<;>simp at h<;>exact ⟨h.symm,rfl⟩
   obtain ⟨rfl,rfl⟩:=this;simp only [Cells.len] at dV;refine ⟨I,I,by simp [Cells.len];omega,fun aG j aa ae=> ?_,fun d j hd ae=> ?_⟩
   ·simp only [Cells.len] at aa;simp [Cells.at,List.getD,oK,aa]
   ·have U: ¬l.length+d<l.length:=J;simp [Cells.at,Cells.len,List.getD,oK,hd,U]
  |_=>exact Ee h
 |strs l=>
  cases ec with
  |strs hq=>
   simp only [Cells.app,dC] at h;subst h;simp only [Cells.len] at dV;refine ⟨I,I,by simp [Cells.len];omega,fun aG j aa ae=> ?_,fun d j hd ae=> ?_⟩
   ·simp only [Cells.len] at aa;simp [Cells.at,List.getD,oK,aa]
   ·have U: ¬l.length+d<l.length:=J;simp [Cells.at,Cells.len,List.getD,oK,hd,U]
  |_=>exact Ee h
 |box l=>exact Ee h
 |fn n s f=>exact Ee h
 |mp ks vs=>exact Ee h
def Cells.simple:Cells→Bool
 | .ints _ _=>true
 | .strs _=>true
 |_=>false
theorem cc.l5 {c:Ctx} {w:World} {a:Act} {σ:Nat→Option bQ} {S:Nat→Prop} {n:Nat} {fr:Fr} {H:aZ} (ad:cc c w a σ S n fr H) {h:Nat} {o:bl} (aV:H[h]? =some (some o)) (bJ:σ h=some .l5) {c':Cells} (cz:c'.aD=o.c.aD) (hlen:c'.len=0):
 cc c w a σ S n (ou h fr) ((c7 h H).set h (some ⟨o.ty,c'⟩)):=by
 have bD:h<H.length:=(hi.1 aV).1;have xW:h<(c7 h H).length:=by rw [va];exact bD
 have sy: ∀{x v},bz w S σ x v→bz w S σ (x.forget h) v:=fun ai=>ai.forget _ (fun _ _=>rfl);have c9: ∀aS o',((c7 h H).set h (some ⟨o.ty,c'⟩))[aS]? =some (some o')→(aS=h∧o'=⟨o.ty,c'⟩)∨(aS≠h∧ ∃dp,H[aS]? =some (some dp)∧o'=⟨dp.ty,dp.c.forget h⟩):=by
  intro aS o' ah;by_cases he:aS=h
  ·subst he;simp only [oH xW,dC] at ah;exact .inl ⟨I,ah.symm⟩
  ·rw [lV (q3 he),I3] at ah;cases aB:H[aS]? with
   |none=>simp [aB] at ah
   |some l6=>cases l6 with
    |none=>simp [aB,ja] at ah
    |some dp=>
     simp [aB,ja] at ah;exact .inr ⟨he,dp,I,ah.symm⟩
 refine ⟨⟨?_,?_,ad.ad.small,fun aS au=>ad.ad.ie aS (by simpa [va] using au)⟩,⟨ad.bj.os,ad.bj.output,ad.bj.tape,ad.bj.size,ad.bj.block,ad.bj.hX,ad.bj.e5,ad.bj.fixed,fun aS aQ=>by simpa [va] using ad.bj.jx aS aQ,?_⟩,ad.defers,ad.size,fun t v au=> ?_⟩
 ·intro aS o' ah;rcases c9 aS o' ah with ⟨rfl,rfl⟩|⟨cd,dp,ri,rfl⟩
  ·exact .inl ⟨bJ,hlen⟩
  ·rcases ad.ad.live aS dp ri with ⟨aI,jA⟩|⟨b',cL,iV,g1,g2,g3,g4,g5,g6,g7⟩
   ·exact .inl ⟨aI,by simpa [Cells.zA] using jA⟩
   ·right;simp only [Cells.zA,Cells.Hj];refine ⟨b',cL,iV,g1,g2.forget I sy,g3,g4,g5,g6,fun i j aa ae=> ?_⟩;obtain ⟨v,aH,aJ,bR⟩:=g7 i j aa ae;exact ⟨v,aH,by rw [Cells.Hi h dp.c i j ae];exact sy aJ,bR⟩
 ·intro U ab o1 o2 b' s1 gI s2 gx g1 g2 aH aJ;have t1: ∃o,H[U]? =some (some o):=by
   rcases c9 U o1 g1 with ⟨rfl,_⟩|⟨_,dp,g,_⟩
   ·exact ⟨_,aV⟩
   ·exact ⟨_,g⟩
  have t2: ∃o,H[ab]? =some (some o):=by
   rcases c9 ab o2 g2 with ⟨rfl,_⟩|⟨_,dp,g,_⟩
   ·exact ⟨_,aV⟩
   ·exact ⟨_,g⟩
  obtain ⟨_,t1⟩:=t1;obtain ⟨_,t2⟩:=t2;exact ad.ad.hJ U ab _ _ b' s1 gI s2 gx t1 t2 aH aJ
 ·intro aS o' b' cy cL ah eA;rcases c9 aS o' ah with ⟨rfl,_⟩|⟨_,dp,ri,_⟩
  ·rw [bJ] at eA;cases eA
  ·exact ad.bj.own aS dp b' cy cL ri eA
 ·rw [Fv] at au;cases aB:look t fr with
  |none=>simp [aB] at au
  |some v0=>
   simp [aB] at au;subst au;exact ⟨(ad.fl t v0 aB).1,sy (ad.fl t v0 aB).2⟩
section
variable {P:Program}{fn:Func}{c:Ctx}{fr:Fr}{H:aZ}{k:List eF}
theorem dy {all:Array Oper}{d:Nat}{t e:TypeId}{x y:Operand}{ty:TypeId}{pos:String}{after:Array Edge}{rest:List Oper}{inf:TypeInfo}{z:Value}{h n:Nat}{o:bl}{v:ak}{ec c':Cells}{i m:Nat}(bu:P.underlying t=some (.slice e))(aa:P.info? e=some inf)(bw:inf.zero=some z)(rj:inf.size=o.c.aD)(j1:z.cells.size=o.c.aD)(e1:Nat.blt 0 o.c.aD=true)(ar:bG fr x=some (.aC h 0 n))(aV:H[h]? =some (some o))(Ms:o.ty=e)(aI:o.c.len=n)(a1:bG fr y=some v)(av:A6 H v=some (ec,i,m))(dV:i+m≤ec.len)(En:o.c.app ec i m=some c')(al:(n+m)*inf.bytes≤140737488355328∧n+m≤9223372036854775807)(uN: ∀i j,i<c'.len→j<c'.aD→(c'.at i j).forget h=c'.at i j)(bI: ¬c.fix h)(an:aj P fn c (.ops false all rest k) ((d,.aC h 0 (n+m))::ou h fr) ((c7 h H).set h (some ⟨e,c'⟩))):aj P fn c (.ops false all (⟨some d,.call {callee:= .builtin .append,args:= #[x,y],argTypes:= #[t,t]},ty,pos,after,none⟩::rest) k) fr H:=by
 refine rZ (fun w a σ S ad=> ?_) an;subst Ms;obtain ⟨c6,fs,lh,lH,Fc⟩:=Cells.ZT En dV;have B2:0<o.c.aD:=iv e1;have U:=ad.dL ar;have ab:=ad.dL a1;have pN:=ad.src ab av (fun _ _=>dV);have iN: ∀r w',(Builtin.append_ #[t,t] ty #[a.eval x,a.eval y]).run P w= .ok r w'→(execOp a.eval ⟨some d,.call {callee:= .builtin .append,args:= #[x,y],argTypes:= #[t,t]},ty,pos,after,none⟩).run P w= .ok (.value r) w':=by intro r w' h;simp [execOp,resolve,invoke,builtin,h]
 generalize wG:a.eval x=Fh at U iN;generalize mu:a.eval y=Nz at ab pN iN;unfold Src at pN;rw [fs] at pN
 --what the old cells and the new ones give
 cases U with
 |aC _ _ _ _ b s C cap bJ hlen jX=>
  subst aI;obtain ⟨gY,cur,g1,g2,g3,g4,g5,g6⟩:=ad.obj aV bJ;subst gY;have LN:cap=C:=J;subst LN;obtain ⟨mk,g1,lF,g3⟩:=g1.cells J;have holds: ∀aG j,aG<o.c.len→j<o.c.aD→ ∃u,(cur.toList.take (o.c.len*o.c.aD))[aG*o.c.aD+j]? =some u∧bz w S σ (c'.at aG j) u∧u.oneCell'=true:=by
   intro aG j aL ae;obtain ⟨u,aH,aJ,bR⟩:=g6 aG j aL ae;have bD:aG*o.c.aD+j<o.c.len*o.c.aD:=by have:(aG+1)*o.c.aD≤o.c.len*o.c.aD:=er _ J;rw [dK] at this;omega
   refine ⟨u,?_,by rw [lH aG j aL ae];exact aJ,bR⟩;rw [py,aA bD];simpa using aH
  have aqT:o.c.len*o.c.aD≤cur.size:=by rw [g2];exact er _ hlen
  rcases pN with ⟨rfl,lX,n8,rfl⟩|⟨ia,n8,news,rfl,bS,bY,db,dP⟩
  ·--nothing appended
   have dR:(Builtin.append_ #[t,t] ty #[.slice (some ⟨b,0*o.c.aD,none⟩) o.c.len cap,.slice lX 0 n8]).run P w= .ok (.slice (some ⟨b,0*o.c.aD,none⟩) o.c.len cap) w:=by cases lX<;>simp [Builtin.append_,run_underlying bu,sizeOf,typeInfo,aa,Builtin.lenOf,hlen,Builtin.firstCells,loadCells,loadCellsFrom,storeCells]
   refine ⟨_,w,_,S,iN _ _ dR,ad.M5 (C:=cap) (cur:=cur) aV I I I (bT _) c6 (fun _ _ _=>rfl) g1 (by rw [c6];exact g2) g3 J (.inr bJ) (.inr bJ) (fun aG j aL ae=> ?_) uN lF,?_⟩
   ·rw [lh] at aL;rw [c6] at ae⊢;obtain ⟨u,aH,aJ,bR⟩:=g6 aG j J ae;exact ⟨u,aH,by rw [lH aG j J ae];exact aJ,bR⟩
   ·rw [←c6];exact .aC _ _ _ _ _ _ cap _ (by simp [cN]) J J
  ·by_cases x4:o.c.len+m≤cap
   ·have su:o.c.len*o.c.aD+news.length≤cur.size:=by rw [bS,g2,←dK];exact er _ x4
    have dR:=Um (P:=P) w t ty o.ty inf bu aa b o.c.len cap cur g1 lF ia m n8 news (by rw [rj];exact bS) bY db x4 (by rw [rj];exact su);rw [rj] at dR;have cH:(cur.toList.take (o.c.len*o.c.aD)).length=o.c.len*o.c.aD:=by simp;omega
    refine ⟨_,_,_,S,iN _ _ (by simpa using dR),ad.M5 (w':=w.setRow b (cur.toList.take (o.c.len*o.c.aD)++news++cur.toList.drop (o.c.len*o.c.aD+news.length)).toArray) (c':=c') (C:=cap) aV I I I bX c6 (fun b' _ eA=>setRow_other w b b' _ eA) (setRow_heap w b cur _ _ _ g1) ?_ g3 J (.inr bJ) (.inr bJ) (fun aG j aL ae=> ?_) uN ?_,?_⟩
    ·rw [c6,←g2];simp;omega
    ·rw [lh] at aL;rw [c6] at ae⊢;by_cases xV:aG<o.c.len
     ·obtain ⟨u,aH,aJ,bR⟩:=holds aG j xV ae;refine ⟨u,?_,aJ,bR⟩;have bD:aG*o.c.aD+j<o.c.len*o.c.aD:=by have:(aG+1)*o.c.aD≤o.c.len*o.c.aD:=er _ J;rw [dK] at this;omega
      simp only [xt,lz];rw [hQ J];exact aH
     ·obtain ⟨u,aH,aJ⟩:=dP (aG-o.c.len) j J ae;refine ⟨u,?_,?_,db u (oL aH)⟩
      ·have sv:aG*o.c.aD+j=o.c.len*o.c.aD+((aG-o.c.len)*o.c.aD+j):=by rw [←ju,←dK];congr 2;omega
       have bD:(aG-o.c.len)*o.c.aD+j<news.length:=(hi.1 aH).1;simp only [xt,lz];rw [sv,ib J,cH,vN,hQ bD];exact aH
      ·have:=Fc (aG-o.c.len) j J ae;rw [show o.c.len+(aG-o.c.len)=aG by omega] at this;rw [this];exact aJ
    ·have cz:(cur.toList.take (o.c.len*o.c.aD)++news++cur.toList.drop (o.c.len*o.c.aD+news.length)).toArray.size=cur.size:=by simp;omega
     rw [cz];exact lF
    ·have:=bz.aC (w:=w.setRow b (cur.toList.take (o.c.len*o.c.aD)++news++cur.toList.drop (o.c.len*o.c.aD+news.length)).toArray) (S:=S) (cN σ h (.at b c'.aD cap)) h 0 (o.c.len+m) b c'.aD cap cap (by simp [cN]) x4 J;simpa using this
   ·have wF:(cur.toList.take (o.c.len*o.c.aD)).length=o.c.len*inf.size:=by rw [rj];simp;omega
    have dR:=run_append_grow (P:=P) w t ty o.ty inf z bu aa bw ⟨b,0,none⟩ o.c.len cap (cur.toList.take (o.c.len*o.c.aD)) wF (fun j u hu=> ?_) ia m n8 news (by rw [rj];exact bS) bY J J (growslice_fits J al.1)
    rotate_left
    ·rw [py] at hu;split at hu
     ·simp [World.cell?,Addr.add_lit,g1];simpa using hu
     ·cases hu
    have lb:=grownCap_ge w (o.c.len+m) cap o.ty;have hle:=grownCap_le_maxLen w (o.c.len+m) cap o.ty (by unfold maxLen;omega);generalize grownCap w (o.c.len+m) cap o.ty=G at dR lb hle;generalize ara:cur.toList.take (o.c.len*o.c.aD)=xs at dR holds wF;rw [rj] at wF;refine ⟨_,w.drew.alloc (.cells (xs.toArray++news.toArray++Builtin.zeroCells z.cells (G-(o.c.len+m))) o.ty),_,S,iN _ _ (by rw [sb];exact dR),cc.Tm (w:=w) (c':=c') (C:=G) (b:=w.heap.size) (cur:=xs.toArray++news.toArray++Builtin.zeroCells z.cells (G-(o.c.len+m))) ad aV I I I bX c6 (fun b' eA _=>Below.heap_alloc w.drew (.cells (xs.toArray++news.toArray++Builtin.zeroCells z.cells (G-(o.c.len+m))) o.ty) b' eA) (heap_alloc_new w.drew _) ?_ hle J (.inl (bT _)) (.inl bI) (fun aG j aL ae=> ?_) uN,?_⟩
    ·simp only [Array.size_append,List.size_toArray,size_zeroCells,wF,bS,j1,c6,←dK];congr 1;omega
    ·rw [lh] at aL;rw [c6] at ae⊢;by_cases xV:aG<o.c.len
     ·obtain ⟨u,aH,aJ,bR⟩:=holds aG j xV ae;refine ⟨u,?_,aJ,bR⟩;have bD:=(hi.1 aH).1;rw [Array.append_assoc,Bj (by simpa using bD)];simpa using aH
     ·obtain ⟨u,aH,aJ⟩:=dP (aG-o.c.len) j J ae;refine ⟨u,?_,?_,db u (oL aH)⟩
      ·have sv:aG*o.c.aD+j=o.c.len*o.c.aD+((aG-o.c.len)*o.c.aD+j):=by rw [←ju,←dK];congr 2;omega
       have bD:(aG-o.c.len)*o.c.aD+j<news.length:=(hi.1 aH).1;rw [Array.append_assoc,sv,Array.getElem?_append_right (by simp [wF]),Bj (by simp [wF];exact bD)];simp [wF];exact aH
      ·have:=Fc (aG-o.c.len) j J ae;rw [show o.c.len+(aG-o.c.len)=aG by omega] at this;rw [this];exact aJ
    ·have:=bz.aC (w:=w.drew.alloc (.cells (xs.toArray++news.toArray++Builtin.zeroCells z.cells (G-(o.c.len+m))) o.ty)) (S:=S) (cN σ h (.at w.heap.size c'.aD G)) h 0 (o.c.len+m) w.heap.size c'.aD G G (by simp [cN]) lb J;simpa using this
 |ih _ _ bJ=>
  have jA:o.c.len=0:=aI;rcases pN with ⟨rfl,lX,n8,rfl⟩|⟨ia,n8,news,rfl,bS,bY,db,dP⟩
  ·have dR:(Builtin.append_ #[t,t] ty #[.slice none 0 0,.slice lX 0 n8]).run P w= .ok (.slice none 0 0) w:=by cases lX<;>simp [Builtin.append_,run_underlying bu,sizeOf,typeInfo,aa,Builtin.lenOf,Builtin.firstCells,loadCells,loadCellsFrom]
   refine ⟨_,w,σ,S,iN _ _ dR,ad.l5 aV bJ c6 J,?_⟩;exact .ih _ _ bJ
  ·by_cases hm:m=0
   ·subst hm;have dR:(Builtin.append_ #[t,t] ty #[.slice none 0 0,.slice (some ia) 0 n8]).run P w= .ok (.slice none 0 0) w:=by simp [Builtin.append_,run_underlying bu,sizeOf,typeInfo,aa,Builtin.lenOf,Builtin.firstCells,loadCells,loadCellsFrom]
    refine ⟨_,w,σ,S,iN _ _ dR,ad.l5 aV bJ c6 J,?_⟩;exact .ih _ _ bJ
   ·have dR:=run_append_nil (P:=P) w t ty o.ty inf z bu aa bw ia m n8 news (by rw [rj];exact bS) bY J J (by
     have so:=al.1;rw [cT] at so;omega)
    have lb:=grownCap_ge w m 0 o.ty;have hle:=grownCap_le_maxLen w m 0 o.ty (by unfold maxLen;omega);generalize grownCap w m 0 o.ty=G at dR lb hle;refine ⟨_,w.drew.alloc (.cells (news.toArray++Builtin.zeroCells z.cells (G-m)) o.ty),_,S,iN _ _ dR,cc.Tm (w:=w) (c':=c') (C:=G) (b:=w.heap.size) (cur:=news.toArray++Builtin.zeroCells z.cells (G-m)) ad aV I I I bX c6 (fun b' eA _=>Below.heap_alloc w.drew (.cells (news.toArray++Builtin.zeroCells z.cells (G-m)) o.ty) b' eA) (heap_alloc_new w.drew _) ?_ hle J (.inl (bT _)) (.inl bI) (fun aG j aL ae=> ?_) uN,?_⟩
    ·simp only [Array.size_append,List.size_toArray,size_zeroCells,bS,j1,c6,←dK];congr 1;omega
    ·rw [lh] at aL;rw [c6] at ae⊢;obtain ⟨u,aH,aJ⟩:=dP aG j J ae;refine ⟨u,?_,?_,db u (oL aH)⟩
     ·have bD:=(hi.1 aH).1;rw [Bj (by simpa using bD)];simpa using aH
     ·have:=Fc aG j J ae;rw [show o.c.len+aG=aG by omega] at this;rw [this];exact aJ
    ·have:=bz.aC (w:=w.drew.alloc (.cells (news.toArray++Builtin.zeroCells z.cells (G-m)) o.ty)) (S:=S) (cN σ h (.at w.heap.size c'.aD G)) h 0 m w.heap.size c'.aD G G (by simp [cN]) lb J;simpa [jA] using this
end
end Go.aj
namespace Go.aj
variable [bA]
open Go.RowKit
def rO (σ:Nat→Option bQ)(H:aZ)(b:Nat):Prop:= ∃h o s C,H[h]? =some (some o)∧σ h=some (.at b s C)
def p7 (w:World)(S:Nat→Prop)(σ:Nat→Option bQ)(H:aZ):Prop:= ∀(w':World) (ca:Nat→Prop),(∀b,S b→ca b)→w.heap.size≤w'.heap.size→(∀b,b<w.heap.size→ ¬rO σ H b→w'.heap[b]? =w.heap[b]?)→bA.G w' ca
theorem p7.less {w:World}{S e5:Nat→Prop}{σ uo:Nat→Option bQ}{H QM:aZ}(h:p7 w S σ H)(dq: ∀b,S b→e5 b)(ah: ∀b,rO uo QM b→rO σ H b):p7 w e5 uo QM:=
 fun w' ca U ab ay=>h w' ca (fun b al=>U b (dq b al)) ab (fun b al aI=>ay b al (fun q=>aI (ah b q)))
theorem p7.now {w:World}{S:Nat→Prop}{σ:Nat→Option bQ}{H:aZ}(h:p7 w S σ H):bA.G w S:=h w S (fun _ h=>h) (bT _) (fun _ _ _=>rfl)
def ov (w:World)(S:Nat→Prop)(σ:Nat→Option bQ)(H:aZ)(fix:Nat→Prop)(R:ak→aZ→Prop)(aF:p7 w S σ H):Ctx:=⟨w,S,rO σ H,σ,fix,R,aF⟩
theorem rO.nil {σ:Nat→Option bQ}{H:aZ}{b:Nat}(h:rO (fun _=>none) [] b):rO σ H b:=by have bZ:= ‹bA›;obtain ⟨h,o,s,C,U,_⟩:=h;simp at U
def pv (w:World)(S:Nat→Prop)(σ:Nat→Option bQ)(args:List ak)(dD:Array Value):Prop:=
 dD.size=args.length∧ ∀i,i<args.length→bz w S σ (args.getD i .any) (dD.getD i undef)
def ch (P:Program)(f:FuncId)(args:List ak)(H:aZ)(fix:Nat→Prop)(K:ak→aZ→Prop):Prop:=
 (∃fn,P.funcs[f]? =some fn∧(fn.name== "runtime.NumGoroutine")=false∧fn.body.isNone=false)∧
 ∀w σ S dD (aF:p7 w S σ H),lT w S σ H→(∀h,fix h→h<H.length)→pv w S σ args dD→
  Calls P f dD w (fun e w'=> ∃v r bC ca bK,e= .returned v∧lT w' ca bC bK∧bz w' ca bC r v∧xo (ov w S σ H fix K aF) w' ca bC bK∧K r bK)
section
variable {P:Program}{fn:Func}{c:Ctx}{fr:Fr}{H:aZ}{k:List eF}
theorem amr {w:World}{a:Act}{σ:Nat→Option bQ}{S:Nat→Prop}{n:Nat}(ad:cc c w a σ S n fr H){r:ResultVar}{v:ak}(h:GC P fr H r=some v):
 ∃x,((match r with
  | .tmp t=>pure (a.tmps.getD t undef)
  | .cell ia t=>do loadVar t (←asAddr (a.tmps.getD ia undef)):Sem Value)).run P w= .ok x w∧bz w S σ v x:=by
 cases r with
 |tmp t=>exact ⟨_,rfl,(ad.fl t v h).2⟩
 |cell t ty=>
  simp only [GC] at h;cases U:look t fr with
  |none=>simp [U] at h
  |some p=>
   cases p<;>try (simp [U] at h;done)
   rename_i bg i j;cases i with
   |succ _=>simp [U] at h
   |zero=>cases j with
    |succ _=>simp [U] at h
    |zero=>
     simp only [U] at h;cases ab:H[bg]? with
     |none=>simp [ab] at h
     |some l6=>cases l6 with
      |none=>simp [ab] at h
      |some o=>
       simp only [ab] at h;obtain ⟨oX,ahu⟩:=o;cases ahu<;>try (simp at h;done)
       rename_i l;simp only at h;have ay:=(ad.fl t _ U).2;generalize bw:a.tmps.getD t undef=z at ay;cases ay with
       |ptr _ _ _ _ b s C bJ=>
        obtain ⟨av,cur,g1,g2,g3,g4,g5,g6⟩:=ad.obj ab bJ;simp only [Cells.aD] at av g2 g6;simp only [Cells.len] at g4 g6;have oa: ∀j,j<l.length→ ∃x,w.cell? ⟨b,j,none⟩=some x∧bz w S σ (l.getD j .any) x∧x.oneCell'=true:=by intro j ae;obtain ⟨mk,g1,_,_⟩:=g1.cells (by show l.length≠0;omega);obtain ⟨x,aH,aJ,bR⟩:=g6 0 j J ae;refine ⟨x,?_,aJ,bR⟩;simp only [sb,cT] at aH;simp [World.cell?,g1,aH]
        have R2: ∀inf:TypeInfo,P.info? ty=some inf→Nat.beq inf.size l.length=true→jn (P.underlying ty|>.getD .string)=true→(P.underlying ty).isSome=true→
         ∃x,(loadVar ty ⟨b,0,none⟩).run P w= .ok x w∧bz w S σ (.agg l) x:=by
         intro inf iO cz Hw afs;obtain ⟨u,hu⟩:=Option.isSome_iff_exists.1 afs;have qw:=pC cz
         let cs:List Value:=(List.range l.length).map (fun j=>(w.cell? ⟨b,j,none⟩).getD undef)
         have au:=run_loadCells_list (P:=P) w ⟨b,0,none⟩ cs (fun j v ai=>by
          have ae:j<l.length:=by simpa [cs] using (hi.1 ai).1
          obtain ⟨x,aH,_,_⟩:=oa j ae;simp only [cs,ly,vM ae,ta,dC] at ai;subst ai;simp [Addr.add_lit,aH])
         have hn:cs.length=inf.size:=by simp [cs,qw]
         refine ⟨.agg cs.toArray,?_,.agg _ _ _ (by simp [cs]) (fun j ae=> ?_) (fun j ae=> ?_)⟩
         ·have MG:jn u=true:=by rw [hu] at Hw;exact Hw
          rw [hn] at au;simp [loadVar,yH hu,MG,sizeOf,typeInfo,iO,au]
         ·obtain ⟨x,aH,aJ,_⟩:=oa j ae;simpa [cs,Array.getD,ae,aH] using aJ
         ·obtain ⟨x,aH,_,bR⟩:=oa j ae;simpa [cs,Array.getD,ae,aH] using bR
        have zV: ∀u,P.underlying ty=some u→jn u=false→Nat.beq 1 l.length=true→l[0]? =some v→ ∃x,(loadVar ty ⟨b,0,none⟩).run P w= .ok x w∧bz w S σ v x:=by
         intro u hu Hw cz ai;have qw:=pC cz;obtain ⟨x,aH,aJ,_⟩:=oa 0 J;have:l.getD 0 .any=v:=by simp [List.getD,ai]
         rw [this] at aJ;exact ⟨x,by simp [loadVar,yH hu,Hw,load,Sem.run,aH],aJ⟩
        have fin:(∃x,(loadVar ty ⟨b,0,none⟩).run P w= .ok x w∧bz w S σ v x)→ ∃x,(do loadVar ty (←asAddr (.pointer (some ⟨b,0*s+0,none⟩))):Sem Value).run P w= .ok x w∧bz w S σ v x:=by rintro ⟨x,aH,aJ⟩;exact ⟨x,by simp [asAddr,aH],aJ⟩
        show∃x,(do loadVar ty (←asAddr (a.tmps.getD t undef)):Sem Value).run P w= .ok x w∧bz w S σ v x;rw [bw];apply fin;cases hu:P.underlying ty with
        |none=>simp [hu] at h
        |some u=>
         cases iO:P.info? ty with
         |none=>
          cases u<;>simp only [hu,iO] at h<;>try (cases h;done)
          all_goals
           cases al:Nat.beq 1 l.length with
           |false=>simp [al] at h
           |true=>simp only [al,lU] at h;exact zV _ hu rfl al h
         |some inf=>
          cases u<;>simp only [hu,iO] at h
          case struct=>
           cases al:Nat.beq inf.size l.length with
           |false=>simp [al] at h
           |true=>simp only [al,lU,dC] at h;subst h;exact R2 inf iO al (by simp [hu,jn]) (by simp [hu])
          case array=>
           cases al:Nat.beq inf.size l.length with
           |false=>simp [al] at h
           |true=>simp only [al,lU,dC] at h;subst h;exact R2 inf iO al (by simp [hu,jn]) (by simp [hu])
          all_goals
           cases al:Nat.beq 1 l.length with
           |false=>simp [al] at h
           |true=>simp only [al,lU] at h;exact zV _ hu rfl al h
theorem alT {w:World}{a:Act}{σ:Nat→Option bQ}{S:Nat→Prop}{n:Nat}(ad:cc c w a σ S n fr H){vs:List ak}(h:ue P fr H fn.results.toList=some vs):
 ∃x,(results fn a.tmps).run P w= .ok x w∧bz w S σ (gS vs) x:=by
 have key: ∀(rs:List ResultVar) (vs:List ak),ue P fr H rs=some vs→ ∃xs:List Value,(rs.mapM (fun (r:ResultVar)=>((match r with
  | .tmp t=>pure (a.tmps.getD t undef)
  | .cell ia t=>do loadVar t (←asAddr (a.tmps.getD ia undef))):Sem Value))).run P w= .ok xs w∧xs.length=vs.length∧ ∀i,i<vs.length→bz w S σ (vs.getD i .any) (xs.getD i undef):=by
  intro rs;induction rs with
  |nil=>intro vs h;simp [ue] at h;subst h;exact ⟨[],bX,rfl,fun i aa=>by simp at aa⟩
  |cons r rs ba=>
   intro vs h;simp only [ue] at h;cases U:GC P fr H r with
   |none=>simp [U] at h
   |some v=>
    cases ab:ue P fr H rs with
    |none=>simp [U,ab] at h
    |some Ny=>
     simp [U,ab] at h;subst h;obtain ⟨x,aH,aJ⟩:=amr ad U;obtain ⟨xs,i1,i2,i3⟩:=ba Ny ab;refine ⟨x::xs,?_,by simp [i2],fun i aa=> ?_⟩
     ·rw [List.mapM_cons,Sem.run_bind,aH];simp only [Result.andThen_ok,Sem.run_bind,i1,Sem.run_pure]
     ·cases i with
      |zero=>exact aJ
      |succ i=>simpa using i3 i (by simpa using aa)
 obtain ⟨xs,aH,aJ,bR⟩:=key _ _ h;refine ⟨if h:xs.toArray.size=1 then xs.toArray[0] else .tuple xs.toArray,?_,?_⟩
 ·unfold results;rw [Array.mapM_eq_mapM_toList];simp only [Sem.run_bind,Sem.run_map];have agq: ∀r:Result (List Value),r= .ok xs w→((r.andThen fun a w'=>Result.ok a.toArray w').andThen fun (a:Array Value) w'=>Sem.run P (pure (if h:a.size=1 then a[0] else Value.tuple a)) w')=Result.ok (if h:xs.toArray.size=1 then xs.toArray[0] else Value.tuple xs.toArray) w:=by rintro _ rfl;rfl
  exact agq _ aH
 ·match vs,xs,aJ with
  |[v],[x],_=>exact bR 0 bX
  |[],[],_=>exact .cn _ _ _ rfl (fun i aa=>by simp at aa)
  |v1::v2::r,hE::iQ::q,aJ=>
   have: ¬(hE::iQ::q).toArray.size=1:=bX;rw [dif_neg this];refine .cn _ _ _ (by simpa using aJ) (fun i aa=> ?_);have:=bR i aa;have bD:i<(hE::iQ::q).length:=by rw [aJ];exact aa
   have e:(hE::iQ::q).toArray.getD i undef=(hE::iQ::q).getD i undef:=by simp only [Array.getD,List.size_toArray,bD,vL,List.getD,nY bD,px];rfl
   rw [e];exact this
def A1:Nat→List ak→Fr
 |_,[]=>[]
 |i,v::r=>(i,v)::A1 (i+1) r
theorem aml (args:List ak): ∀i t v,look t (A1 i args)=some v→i≤t∧t<i+args.length∧args.getD (t-i) .any=v:=by
 have bZ:= ‹bA›;induction args with
 |nil=>intro i t v h;simp [A1,look] at h
 |cons x r ba=>
  intro i t v h;simp only [A1,look] at h;by_cases he:t=i
  ·subst he;simp at h;subst h;exact ⟨bT _,bX,bX⟩
  ·simp only [dv he,oF] at h;obtain ⟨U,ab,ay⟩:=ba (i+1) t v h;refine ⟨J,by simp;omega,?_⟩;rw [show t-i=(t-(i+1))+1 by omega];simpa using ay
theorem gl {f:FuncId}{code:Code}{args:List ak}{fix:Nat→Prop}{R:ak→aZ→Prop}(aQ:P.funcs[f]? =some fn)(al:fn.body=some code)(aI:(fn.name== "runtime.NumGoroutine")=false)(cz:Nat.ble args.length fn.ntmps=true)(h: ∀c:Ctx,c.R=R→c.fix=fix→aj P fn c (.code code []) (A1 0 args) H):ch P f args H fix R:=by
 refine ⟨⟨fn,aQ,aI,by rw [al];rfl⟩,fun w σ S dD Mt tw gP ai=> ?_⟩;refine calls_of_wp aQ al ?_;have afw:args.length≤fn.ntmps:=iv cz;have jh:cc (ov w S σ H fix R Mt) w {tmps:=dD++Array.replicate (fn.ntmps-dD.size) undef,defers:=[]} σ S fn.ntmps (A1 0 args) H:=by
  refine ⟨tw,⟨I,I,I,bT _,fun _ _ _=>rfl,fun _ h=>h,fun _ h=> .inl h,fun _ _=>rfl,gP,fun h o b s C U ab=> .inl ⟨h,o,s,C,U,ab⟩⟩,I,by simp [ai.1];omega,fun t v au=> ?_⟩;obtain ⟨_,ab,ay⟩:=aml args 0 t v au;simp only [cT,xu] at ab ay;refine ⟨J,?_⟩;have:=ai.2 t ab;rw [ay] at this;have bD:t<dD.size:=by rw [ai.1];exact ab
  have e:(dD++Array.replicate (fn.ntmps-dD.size) undef).getD t undef=dD.getD t undef:=by simp [DT,bD]
  rw [e];exact this
 refine wp_mono (h (ov w S σ H fix R Mt) I I w _ σ S jh) ?_;rintro e nn w' ⟨bC,ca,iw,bK,fV,aF⟩;obtain ⟨he,vs,E1,aq⟩:=aF;obtain ⟨x,ar,afL⟩:=alT fV E1;have fin:nn.defers=[]∧ ∃v,(results fn nn.tmps).run P w'= .ok v w'∧ ∃Ue r QH K1 KY,Ending.returned v= .returned Ue∧lT w' K1 QH KY∧bz w' K1 QH r Ue∧xo (ov w S σ H fix R Mt) w' K1 QH KY∧R r KY:=
  ⟨fV.defers,x,ar,x,gS vs,bC,ca,bK,rfl,fV.ad,afL,fV.bj,aq⟩
 rcases he with rfl|rfl
 ·exact fin
 ·exact fin
def lD (fr:Fr):List Operand→Option (List ak)
 |[]=>some []
 |x::r=>match bG fr x with
  |some v=>match lD fr r with
   |some l=>some (v::l)
   |none=>none
  |none=>none
theorem F0 {w:World}{a:Act}{σ:Nat→Option bQ}{S:Nat→Prop}{n:Nat}(ad:cc c w a σ S n fr H): ∀(xs:List Operand) (l:List ak),lD fr xs=some l→xs.length=l.length∧ ∀i,i<l.length→bz w S σ (l.getD i .any) ((xs.map a.eval).getD i undef)
 |[],l,h=>by simp [lD] at h;subst h;exact ⟨rfl,fun i aa=>by simp at aa⟩
 |x::r,l,h=>by
  simp only [lD] at h;cases U:bG fr x with
  |none=>simp [U] at h
  |some v=>
   cases ab:lD fr r with
   |none=>simp [U,ab] at h
   |some hq=>
    simp [U,ab] at h;subst h;obtain ⟨i1,i2⟩:=F0 ad r hq ab;refine ⟨by simp [i1],fun i aa=> ?_⟩;cases i with
    |zero=>exact ad.dL U
    |succ i=>simpa using i2 i (by simpa using aa)
theorem cc.called {w w':World}{a:Act}{σ bC:Nat→Option bQ}{S ca:Nat→Prop}{n:Nat}{bK:aZ}{fix:Nat→Prop}{K:ak→aZ→Prop}(ad:cc c w a σ S n fr H)(gO: ∀h,h<H.length→fix h)(tw:lT w' ca bC bK){aF:p7 w S σ H}(jY:xo (ov w S σ H fix K aF) w' ca bC bK):
 cc c w' a bC ca n fr bK:=by
 have bJ: ∀h B,σ h=some B→bC h=some B:=by
  intro h B ck;have bD:h<H.length:=by
   rcases gz h H.length with au|au
   ·exact au
   ·rw [ad.ad.ie h au] at ck;cases ck
  have:=jY.fixed h (gO h bD);rw [this];exact ck
 have Lx: ∀b,S b→ ¬rO σ H b:=by rintro b av ⟨h,o,s,C,U,ab⟩;exact (ad.obj U ab).2.choose_spec.2.2.2.2.1 av
 have dq: ∀b,S b→w'.heap[b]? =w.heap[b]? :=fun b av=>jY.block b (ad.ad.small b av) (Lx b av);refine ⟨tw,?_,ad.defers,ad.size,fun t v au=>⟨(ad.fl t v au).1,(ad.fl t v au).2.mono jY.hX dq _ bJ⟩⟩;refine ⟨jY.os.trans ad.bj.os,jY.output.trans ad.bj.output,jY.tape.trans ad.bj.tape,dN ad.bj.size jY.size,fun b al ah=> ?_,fun b al=>jY.hX b (ad.bj.hX b al),fun b al=> ?_,fun h aQ=> ?_,fun h aQ=>jY.jx h (gO h (ad.bj.jx h aQ)),fun h o b s C U ab=> ?_⟩
 ·rw [←ad.bj.block b al ah];have pM:=ad.bj.size;refine jY.block b (by simp only [ov];omega) ?_;rintro ⟨h,o,s,C,U,ab⟩;rcases ad.bj.own h o b s C U ab with ay|ay
  ·exact ah ay
  ·omega
 ·rcases jY.e5 b al with U|U|U
  ·exact ad.bj.e5 b U
  ·obtain ⟨h,o,s,C,g1,g2⟩:=U;rcases ad.bj.own h o b s C g1 g2 with g3|g3
   ·exact .inr (.inl g3)
   ·exact .inr (.inr g3)
  ·right;right;have:=ad.bj.size;simp only [ov] at U;omega
 ·rw [jY.fixed h (gO h (ad.bj.jx h aQ))];exact ad.bj.fixed h aQ
 ·rcases jY.own h o b s C U ab with ⟨aS,o',cy,cL,g1,g2⟩|ay
  ·exact ad.bj.own aS o' b cy cL g1 g2
  ·right;have:=ad.bj.size;simp only [ov] at ay;omega
theorem cc.TC {w:World}{a:Act}{σ:Nat→Option bQ}{S:Nat→Prop}{n:Nat}(ad:cc c w a σ S n fr H):p7 w S σ H:=by
 intro w' ca U ab ay;refine c.ahS w' ca (fun b al=>U b (ad.bj.hX b al)) (dN ad.bj.size ab) (fun b al ah=> ?_);have av:=ad.bj.size;rw [ay b J ?_,ad.bj.block b al ah];rintro ⟨h,o,s,C,g1,g2⟩;rcases ad.bj.own h o b s C g1 g2 with g|g
 ·exact ah g
 ·omega
theorem De {all:Array Oper}{d:Option Nat}{g:Operand}{args:List Operand}{iJ:Array TypeId}{ty:TypeId}{pos:String}{after:Array Edge}{rest:List Oper}{f:FuncId}{cw eh hh:List ak}{fix:Nat→Prop}{K:ak→aZ→Prop}(c2:bG fr g=some (.fn f cw))(a8:lD fr args=some eh)(has:eh++cw=hh)(lY:ch P f hh H fix K)(gO: ∀h,h<H.length→fix h)(gP: ∀h,fix h→h<H.length)(an: ∀r bK,K r bK→aj P fn c (.ops false all rest k) (match d with|some d=>(d,r)::fr|none=>fr) bK):aj P fn c (.ops false all (⟨d,.call {callee:= .value g,args:=args.toArray,argTypes:=iJ},ty,pos,after,none⟩::rest) k) fr H:=by
 intro hd w a σ S ad;obtain ⟨jg,kl⟩:=tR hd;obtain ⟨⟨acv,BQ,L4,HG⟩,aw⟩:=lY;subst has;have U:=ad.dL c2;obtain ⟨aH,aJ⟩:=F0 ad args eh a8;generalize bw:a.eval g=z at U;refine wpList_step (fun kE Lt=> ?_);simp only [Region.wanted,gf];unfold Oper.wp;cases U with
 |fn _ _ _ vs au ai=>
  have dR:(execOp a.eval ⟨d,.call {callee:= .value g,args:=args.toArray,argTypes:=iJ},ty,pos,after,none⟩).run P w= .ok (.enter f ((args.map a.eval).toArray++vs)) w:=by simp only [execOp,resolve,bw,Deferred.ofValue,Sem.run_bind,Sem.run_pure,Result.andThen_ok,invoke,callFunc,List.map_toArray,Array.empty_append,program,Sem.run,BQ];simp [L4,HG]
  rw [dR];have Hx:pv w S σ (eh++cw) ((args.map a.eval).toArray++vs):=by
   refine ⟨by simp [aH,au],fun i aa=> ?_⟩;simp only [c8] at aa;by_cases bD:i<eh.length
   ·have:=aJ i bD;have xW:i<args.length:=J;have lB:(eh++cw).getD i .any=eh.getD i .any:=by simp [List.getD,oK,bD]
    have lC:((args.map a.eval).toArray++vs).getD i undef=(args.map a.eval).getD i undef:=by simp [DT,xW,List.getD]
    rw [lB,lC];exact this
   ·have:=ai (i-eh.length) J;have jZ: ¬i<args.length:=J;have lB:(eh++cw).getD i .any=cw.getD (i-eh.length) .any:=by simp [List.getD,oK,bD]
    have lC:((args.map a.eval).toArray++vs).getD i undef=vs.getD (i-eh.length) undef:=by simp [DT,aH,bD]
    rw [lB,lC];exact this
  refine Calls.mono (aw w σ S _ ad.TC ad.ad gP Hx) ?_;rintro e w' ⟨v,r,bC,ca,bK,rfl,g1,g2,g3,g4⟩;have jh:=ad.called gO g1 g3;refine Lt _ _ ?_;cases d with
  |none=>exact an r bK g4 kl w' _ bC ca jh
  |some d=>exact an r bK g4 kl w' _ bC ca (jh.put g2 (jg d rfl))
end
end Go.aj
namespace Go.aj
variable [bA]
open Go.RowKit
def bs (P:Program)(f:FuncId)(args:List ak)(r:ak):Prop:= ∀H,ch P f args H (fun h=>h<H.length) (fun dB bK=>dB=r∧bK=H)
theorem pv.closed {w:World}{S:Nat→Prop}{σ:Nat→Option bQ}{args:List ak}{dD:Array Value}(h:pv w S σ args dD)(aI:cM.eM args=true)(bC:Nat→Option bQ):pv w S bC args dD:=
 ⟨h.1,fun i aa=>(h.2 i aa).closed (wX aI i aa) bC⟩
theorem lT.empty {w:World}{S:Nat→Prop}{σ:Nat→Option bQ}{H:aZ}(h:lT w S σ H):lT w S (fun _=>none) []:=
 have bZ:= ‹bA›;⟨fun h o ah=>by simp at ah,fun h aS o o' b s C cy cL U=>by simp at U,h.small,fun _ _=>rfl⟩
theorem lT.after {w w':World}{S ca:Nat→Prop}{σ Zu:Nat→Option bQ}{H b5:aZ}{fix:Nat→Prop}{K:ak→aZ→Prop}(h:lT w S σ H)(ad:lT w' ca Zu b5){xY:p7 w S (fun _=>none) []}(an:xo (ov w S (fun _=>none) [] fix K xY) w' ca Zu b5):
 lT w' ca σ H∧ ∀(kE:ak→aZ→Prop) (aF:p7 w S σ H),xo (ov w S σ H (fun h=>h<H.length) kE aF) w' ca σ H:=by
 have fU: ∀b,¬rO (fun _=>none) [] b:=by rintro b ⟨h,o,s,C,U,_⟩;simp at U
 have pF: ∀b,b<w.heap.size→w'.heap[b]? =w.heap[b]? :=fun b al=>an.block b al (fU b);have ai: ∀{Zt:Nat→Option bQ} {x v},bz w S Zt x v→bz w' ca Zt x v:=fun ai=>ai.mono an.hX (fun b al=>pF b (h.small b al)) _ (fun _ _ h=>h);have adb: ∀b,b<w.heap.size→ ¬S b→ ¬ca b:=by
  intro b al av gY;rcases an.e5 b gY with U|U|U
  ·exact av U
  ·exact fU b U
  ·simp only [ov] at U;omega
 refine ⟨⟨fun aS o ah=> ?_,h.hJ,ad.small,h.ie⟩,fun kE aF=>⟨an.os,an.output,an.tape,an.size,fun b al _=>pF b al,an.hX,fun b al=>(an.e5 b al).elim .inl (fun h=>h.elim (fun h=>absurd h (fU b)) (fun h=> .inr (.inr h))),fun _ _=>rfl,fun _ h=>h,fun h o b s C U ab=> .inl ⟨h,o,s,C,U,ab⟩⟩⟩;rcases h.live aS o ah with aI|⟨b,C,cur,U,ab,ay,bf,bL,dz,fx⟩
 ·exact .inl aI
 ·right;have bD:=ab.lt;refine ⟨b,C,cur,U,ab.mono (pF b bD) ai,ay,bf,bL,adb b bD dz,fun i j aa ae=> ?_⟩;obtain ⟨v,aH,aJ,bR⟩:=fx i j aa ae;exact ⟨v,aH,ai aJ,bR⟩
mutual
def ak.kL (H:aZ):ak→ak
 | .aC h i n=>match H[h]? with
  |some (some o)=> .ro o.c i n
  |_=> .any
 | .ptr h i j=>match H[h]? with
  |some (some o)=> .cK o.c i j
  |_=> .any
 | .fn f l=> .fn f (ak.qp H l)
 | .agg l=> .agg (ak.qp H l)
 | .cn l=> .cn (ak.qp H l)
 | .mp h=>match H[h]? with
  |some (some o)=>match o.c with
   | .mp ks vs=> .hr ks vs
   |_=> .any
  |_=> .any
 |v=>v
def ak.qp (H:aZ):List ak→List ak
 |[]=>[]
 |v::r=>v.kL H::ak.qp H r
end
theorem wT (H:aZ)(l:List ak):(ak.qp H l).length=l.length:=by
 have bZ:= ‹bA›;induction l with
 |nil=>rfl
 |cons v r ba=>simp [ak.qp,ba]
theorem Jx (H:aZ)(l:List ak)(i:Nat)(aa:i<l.length):(ak.qp H l).getD i .any=(l.getD i .any).kL H:=by
 have bZ:= ‹bA›;induction l generalizing i with
 |nil=>simp at aa
 |cons v r ba=>cases i with
  |zero=>rfl
  |succ i=>simpa [ak.qp] using ba i (by simpa using aa)
def eZ:Cells→Prop
 | .mp ks vs=>cM.eM ks=true∧cM.eM vs=true
 |c=> ∀i j,i<c.len→j<c.aD→cM (c.at i j)=true
theorem eZ.row {c:Cells}(h:eZ c): ∀i j,i<c.len→j<c.aD→cM (c.at i j)=true:=by have bZ:= ‹bA›;cases c<;>first|exact h|exact fun i j aa=>absurd aa (gg _)
theorem eZ.mp {c:Cells}(h:eZ c){ks vs:List ak}(aw:c= .mp ks vs):cM.eM ks=true∧cM.eM vs=true:=by have bZ:= ‹bA›;subst aw;exact h
theorem Uw {c:Cells}(h:c.simple=true):eZ c:=by have bZ:= ‹bA›;cases c<;>first|exact (fun i j _ _=>rfl)|cases h
mutual
def lG (H:aZ):ak→Prop
 | .aC h i n=> ∀o,H[h]? =some (some o)→i+n≤o.c.len
 | .ptr h i _=> ∀o,H[h]? =some (some o)→i<o.c.len
 | .fn _ l=>mG H l
 | .agg l=>mG H l
 | .cn l=>mG H l
 |_=>True
def mG (H:aZ):List ak→Prop
 |[]=>True
 |v::r=>lG H v∧mG H r
end
theorem AD {H:aZ}{l:List ak}(h:mG H l)(i:Nat)(aa:i<l.length):lG H (l.getD i .any):=by
 have bZ:= ‹bA›;induction l generalizing i with
 |nil=>simp at aa
 |cons v r ba=>cases i with
  |zero=>exact h.1
  |succ i=>simpa using ba h.2 i (by simpa using aa)
def A3 (w:World)(S:Nat→Prop)(σ:Nat→Option bQ)(H:aZ):Prop:=
 ∀h o,H[h]? =some (some o)→
  (σ h=some .l5∧o.c.len=0)∨
  ∃b C cur,σ h=some (.at b o.c.aD C)∧Lays w S σ o b cur C∧cur.size=C*o.c.aD∧C≤maxLen+1∧o.c.len≤C∧ ¬S b∧
   ∀i j,i<o.c.len→j<o.c.aD→ ∃v,cur[i*o.c.aD+j]? =some v∧bz w S σ (o.c.at i j) v∧v.oneCell'=true
theorem bz.freeze {w:World}{S:Nat→Prop}{σ:Nat→Option bQ}{H:aZ}(tw:A3 w S σ H)(fa: ∀(h:Nat) (o:bl),H[h]? =some (some o)→eZ o.c){ca:Nat→Prop}(dq: ∀b,S b→ca b)(zD: ∀h o b s C,H[h]? =some (some o)→σ h=some (.at b s C)→ca b){x:ak}{v:Value}(ai:bz w S σ x v): ∀bC,lG H x→bz w ca bC (x.kL H) v:=by
 have kO: ∀{mI:Nat→Option bQ} {x v},bz w S mI x v→bz w ca mI x v:=fun h=>h.mono dq (fun _ _=>rfl) _ (fun _ _ h=>h);obtain ⟨mI,oV⟩: ∃mI,mI=σ:=⟨σ,rfl⟩
 rw [←oV] at ai;induction ai with
 |int=>intros;constructor
 |bool=>intros;constructor
 |str=>intros;constructor
 |nil=>intros;constructor
 |kq=>intros;constructor
 |ro _ c i len b o cap val e9 hlen aw iy U ba=>intro bC _;exact .ro _ _ _ _ _ _ _ val (dq _ e9) hlen aw (fun d j hd ae=>kO (iy d j hd ae)) U
 |aC DI h i len b s C cap bJ hlen jX=>
  rw [oV] at bJ;intro bC dV;simp only [ak.kL];cases aB:H[h]? with
  |none=>exact .any _ _
  |some l6=>cases l6 with
   |none=>exact .any _ _
   |some o=>
    simp only;have BS:i+len≤o.c.len:=dV o aB;rcases tw h o aB with ⟨aI,_⟩|⟨b',cL,cur,fq,g1,g2,g3,g4,g5,g6⟩
    ·rw [bJ] at aI;cases aI
    ·rw [bJ] at fq;simp only [dC,bQ.at.injEq] at fq;obtain ⟨rfl,rfl,rfl⟩:=fq;by_cases oe:o.c.aD=0
     ·exact .ro _ _ _ _ _ _ _ (fun _ _=>undef) (zD h o b _ C aB bJ) hlen (fun d j hd ae=>by omega) (fun d j hd ae=>by omega) (fun d j hd ae=>by omega)
     obtain ⟨mk,g1,_,_⟩:=g1.cells oe;have hB: ∀d j,d<len→j<o.c.aD→ ∃u,cur[(i+d)*o.c.aD+j]? =some u∧bz w S σ (o.c.at (i+d) j) u∧u.oneCell'=true:=fun d j hd ae=>g6 (i+d) j J ae;refine .ro _ _ _ _ _ _ _ (fun d j=>(cur[(i+d)*o.c.aD+j]?).getD undef) (zD h o b _ C aB bJ) hlen (fun d j hd ae=> ?_) (fun d j hd ae=> ?_) (fun d j hd ae=> ?_)
     ·obtain ⟨u,aH,_⟩:=hB d j hd ae;have e:i*o.c.aD+d*o.c.aD+j=(i+d)*o.c.aD+j:=by rw [dK]
      simp [World.cell?,g1,e,aH]
     ·obtain ⟨u,aH,aJ,_⟩:=hB d j hd ae;simp only [aH,px];exact kO (aJ.closed ((fa h o aB).row _ _ J ae) _)
     ·obtain ⟨u,aH,_,bR⟩:=hB d j hd ae;simp only [aH,px];exact bR
 |mp DI h b bJ=>
  rw [oV] at bJ;intro bC dV;simp only [ak.kL];cases aB:H[h]? with
  |none=>exact .any _ _
  |some l6=>cases l6 with
   |none=>exact .any _ _
   |some o=>
    simp only;rcases tw h o aB with ⟨aI,_⟩|⟨b',cL,cur,fq,g1,g2,g3,g4,g5,g6⟩
    ·rw [bJ] at aI;cases aI
    ·rw [bJ] at fq;simp only [dC,bQ.at.injEq] at fq;obtain ⟨rfl,cz,rfl⟩:=fq;cases g1 with
     |row mk _ _ ed=>omega
     |map ks vs es clock aw _ al aI au hd he=>
      simp only [aw]
      ·have a8:=(fa h o aB).mp aw;refine .hr _ _ _ b es clock (fun i=>(es[i]?).getD default) (zD h o b _ _ aB (by rw [bJ])) al aI au hd (fun i aa=> ?_) (fun i aa=> ?_) (fun i aa=> ?_)
       ·obtain ⟨e,aH,_⟩:=he i aa;simp [aH]
       ·obtain ⟨e,aH,aJ,_⟩:=he i aa;simp only [aH,px];exact kO (aJ.closed (wX a8.1 i aa) _)
       ·obtain ⟨e,aH,_,bR⟩:=he i aa;simp only [aH,px];exact kO (bR.closed (wX a8.2 i J) _)
 |hr _ ks vs b es clock e e9 al aI au hd he an ai MT MV=>intro bC _;exact .hr _ _ _ b es clock e (dq _ e9) al aI au hd he (fun i aa=>kO (an i aa)) (fun i aa=>kO (ai i aa))
 |ih _ h bJ=>
  intro bC dV;simp only [ak.kL];cases aB:H[h]? with
  |none=>exact .any _ _
  |some l6=>cases l6 with
   |none=>exact .any _ _
   |some o=>exact .kq _ _ _ _ _
 |cK _ c i j b o val e9 aw iy U ba=>intro bC _;exact .cK _ _ _ _ _ _ val (dq _ e9) aw (fun e he=>kO (iy e he)) U
 |ptr DI h i j b s C bJ=>
  rw [oV] at bJ;intro bC dV;simp only [ak.kL];cases aB:H[h]? with
  |none=>exact .any _ _
  |some l6=>cases l6 with
   |none=>exact .any _ _
   |some o=>
    simp only;have BS:i<o.c.len:=dV o aB;rcases tw h o aB with ⟨aI,_⟩|⟨b',cL,cur,fq,g1,g2,g3,g4,g5,g6⟩
    ·rw [bJ] at aI;cases aI
    ·rw [bJ] at fq;simp only [dC,bQ.at.injEq] at fq;obtain ⟨rfl,rfl,rfl⟩:=fq;by_cases oe:o.c.aD=0
     ·exact .cK _ _ _ _ _ _ (fun _=>undef) (zD h o b _ C aB bJ) (fun e he=>by omega) (fun e he=>by omega) (fun e he=>by omega)
     obtain ⟨mk,g1,_,_⟩:=g1.cells oe;refine .cK _ _ _ _ _ _ (fun e=>(cur[i*o.c.aD+(j+e)]?).getD undef) (zD h o b _ C aB bJ) (fun e he=> ?_) (fun e he=> ?_) (fun e he=> ?_)
     ·obtain ⟨u,aH,_⟩:=g6 i (j+e) BS he;have gA:i*o.c.aD+j+e=i*o.c.aD+(j+e):=J;simp [World.cell?,g1,gA,aH]
     ·obtain ⟨u,aH,aJ,_⟩:=g6 i (j+e) BS he;simp only [aH,px];exact kO (aJ.closed ((fa h o aB).row _ _ BS he) _)
     ·obtain ⟨u,aH,_,bR⟩:=g6 i (j+e) BS he;simp only [aH,px];exact bR
 |pP=>intros;constructor
 |fn _ f cap vs au ai ba=>intro bC dV;exact .fn _ _ _ _ (by rw [wT];exact au) (fun i aa=>by rw [wT] at aa;rw [Jx H cap i aa];exact ba i aa oV bC (AD dV i aa))
 |pO=>intros;constructor
 |iface=>intros;constructor
 |oh=>intros;constructor
 |agg _ l vs au ai U ba=>intro bC dV;exact .agg _ _ _ (by rw [wT];exact au) (fun i aa=>by rw [wT] at aa;rw [Jx H l i aa];exact ba i aa oV bC (AD dV i aa)) (fun i aa=>U i (by rwa [wT] at aa))
 |cn _ l vs au ai ba=>intro bC dV;exact .cn _ _ _ (by rw [wT];exact au) (fun i aa=>by rw [wT] at aa;rw [Jx H l i aa];exact ba i aa oV bC (AD dV i aa))
 |any=>intros;constructor
theorem ch.value {P:Program}{f:FuncId}{args:List ak}{fix:Nat→Prop}{r:ak}{K:ak→aZ→Prop}(aw:ch P f args [] fix K)(kn: ∀h,¬fix h)(aI:cM.eM args=true)(dH: ∀cV b5,K cV b5→cV.kL b5=r∧lG b5 cV∧ ∀(h:Nat) (o:bl),b5[h]? =some (some o)→eZ o.c):bs P f args r:=by
 intro H;refine ⟨aw.1,fun w σ S dD aF ad aQ ai=> ?_⟩;refine (aw.2 w (fun _=>none) S dD (aF.less (fun _ h=>h) (fun _ h=>h.nil)) ad.empty (fun h aV=>absurd aV (kn h)) (ai.closed aI _)).mono ?_;rintro e w' ⟨v,cV,bC,ca,b5,rfl,g1,g2,g3,g4⟩;obtain ⟨ee,fg,gC⟩:=dH cV b5 g4;have fU: ∀b,¬rO (fun _=>none) [] b:=by rintro b ⟨h,o,s,C,U,_⟩;simp at U
 --the region takes the new objects' blocks in
 let e5:Nat→Prop:=fun b=>ca b∨ ∃h o s C,b5[h]? =some (some o)∧bC h=some (.at b s C)
 have bD: ∀b,(∃h o s C,b5[h]? =some (some o)∧bC h=some (.at b s C))→w.heap.size≤b∧b<w'.heap.size:=by
  rintro b ⟨h,o,s,C,U,ab⟩;refine ⟨?_,?_⟩
  ·rcases g3.own h o b s C U ab with ay|ay
   ·exact absurd ay (fU b)
   ·exact ay
  ·rcases g1.live h o U with ⟨aI,_⟩|⟨b',cL,cur,fq,g,_⟩
   ·rw [ab] at aI;cases aI
   ·rw [ab] at fq;simp only [dC,bQ.at.injEq] at fq;rw [fq.1];exact g.lt
 have B3:lT w' e5 (fun _=>none) []:=⟨fun h o ah=>by simp at ah,fun h aS o o' b s C cy cL U=>by simp at U,fun b al=>by
  rcases al with U|U
  ·exact g1.small b U
  ·exact (bD b U).2,fun _ _=>rfl⟩
 have l0:xo (ov w S (fun _=>none) [] (fun _=>False) K (aF.less (fun _ h=>h) (fun _ h=>h.nil))) w' e5 (fun _=>none) []:=
  ⟨g3.os,g3.output,g3.tape,g3.size,g3.block,fun b al=> .inl (g3.hX b al),fun b al=>by
   rcases al with U|U
   ·exact g3.e5 b U
   ·exact .inr (.inr (bD b U).1),fun _ h=>h.elim,fun _ h=>h.elim,fun h o b s C U=>by simp at U⟩
 obtain ⟨gy,a2⟩:=ad.after B3 l0;refine ⟨v,r,σ,e5,H,I,gy,?_,a2 _ _,I,I⟩;rw [←ee];exact bz.freeze g1.live gC (fun _ h=> .inl h) (fun h o b s C U ab=> .inr ⟨h,o,s,C,U,ab⟩) g2 σ fg
theorem ch.qG {P:Program}{f:FuncId}{args:List ak}{fix:Nat→Prop}{r:ak}(aw:ch P f args [] fix (fun dB _=>dB=r))(kn: ∀h,¬fix h)(aI:cM.eM args=true)(ad:cM r=true):bs P f args r:=by intro H;refine ⟨aw.1,fun w σ S dD aF jh aQ ai=> ?_⟩;refine (aw.2 w (fun _=>none) S dD (aF.less (fun _ h=>h) (fun _ h=>h.nil)) jh.empty (fun h aV=>absurd aV (kn h)) (ai.closed aI _)).mono ?_;rintro e w' ⟨v,cV,bC,ca,b5,rfl,g1,g2,g3,g4⟩;obtain ⟨gy,a2⟩:=jh.after g1 g3;subst g4;exact ⟨v,cV,σ,ca,H,I,gy,g2.closed ad σ,a2 _ _,I,I⟩
end Go.aj
namespace Go.aj
variable [bA]
open Go.RowKit
def ud (P:Program)(f:FuncId)(args:List ak)(r:Nat→ak)(o:bl):Prop:= ∀H,ch P f args H (fun h=>h<H.length) (fun dB bK=>dB=r H.length∧bK=H++[some o])
mutual
def ak.l4 (H:aZ)(id new:Nat):ak→ak
 | .aC h i n=>bif Nat.beq h id then .aC new i n else match H[h]? with
  |some (some o)=> .ro o.c i n
  |_=> .any
 | .ptr h i j=>bif Nat.beq h id then .ptr new i j else match H[h]? with
  |some (some o)=> .cK o.c i j
  |_=> .any
 | .fn f l=> .fn f (ak.keeps H id new l)
 | .agg l=> .agg (ak.keeps H id new l)
 | .cn l=> .cn (ak.keeps H id new l)
 | .mp h=>bif Nat.beq h id then .mp new else (ak.mp h).kL H
 |v=>v
def ak.keeps (H:aZ)(id new:Nat):List ak→List ak
 |[]=>[]
 |v::r=>v.l4 H id new::ak.keeps H id new r
end
theorem Ar (H:aZ)(id new:Nat)(l:List ak):(ak.keeps H id new l).length=l.length:=by
 have bZ:= ‹bA›;induction l with
 |nil=>rfl
 |cons v r ba=>simp [ak.keeps,ba]
theorem Oa (H:aZ)(id new:Nat)(l:List ak)(i:Nat)(aa:i<l.length):(ak.keeps H id new l).getD i .any=(l.getD i .any).l4 H id new:=by
 have bZ:= ‹bA›;induction l generalizing i with
 |nil=>simp at aa
 |cons v r ba=>cases i with
  |zero=>rfl
  |succ i=>simpa [ak.keeps] using ba i (by simpa using aa)
theorem bz.l4 {w:World}{S:Nat→Prop}{σ:Nat→Option bQ}{H:aZ}{id new:Nat}(tw:A3 w S σ H)(fa: ∀(h:Nat) (o:bl),H[h]? =some (some o)→eZ o.c){ca:Nat→Prop}(dq: ∀b,S b→ca b)(zD: ∀h o b s C,h≠id→H[h]? =some (some o)→σ h=some (.at b s C)→ca b){x:ak}{v:Value}(ai:bz w S σ x v): ∀bC,(∀B,σ id=some B→bC new=some B)→lG H x→bz w ca bC (x.l4 H id new) v:=by
 have kO: ∀{mI:Nat→Option bQ} {x v},bz w S mI x v→bz w ca mI x v:=fun h=>h.mono dq (fun _ _=>rfl) _ (fun _ _ h=>h)
 --the others:as by freeze,over the memory without id
 have nz: ∀h,h≠id→(H.set id none)[h]? =H[h]? :=fun h cd=>lV (q3 cd);have c9: ∀h o,(H.set id none)[h]? =some (some o)→h≠id∧H[h]? =some (some o):=by
  intro h o ah;by_cases he:h=id
  ·subst he;rw [DU] at ah;simp only [gf] at ah;split at ah<;>simp at ah
  ·exact ⟨he,by rwa [nz h he] at ah⟩
 have ael:A3 w S σ (H.set id none):=fun h o ah=>tw h o (c9 h o ah).2;have kL: ∀{x v},bz w S σ x v→lG (H.set id none) x→ ∀bC,bz w ca bC (x.kL (H.set id none)) v:=fun ai dV bC=>
  bz.freeze ael (fun h o ah=>fa h o (c9 h o ah).2) dq (fun h o b s C U ab=>zD h o b s C (c9 h o U).1 (c9 h o U).2 ab) ai bC dV
 obtain ⟨mI,oV⟩: ∃mI,mI=σ:=⟨σ,rfl⟩
 rw [←oV] at ai;induction ai with
 |int=>intros;constructor
 |bool=>intros;constructor
 |str=>intros;constructor
 |nil=>intros;constructor
 |kq=>intros;constructor
 |ro _ c i len b o cap val e9 hlen aw iy U ba=>intro bC _ _;exact .ro _ _ _ _ _ _ _ val (dq _ e9) hlen aw (fun d j hd ae=>kO (iy d j hd ae)) U
 |aC DI h i len b s C cap bJ hlen jX=>
  rw [oV] at bJ;intro bC hid dV;simp only [ak.l4];by_cases he:h=id
  ·subst he;simp only [pD,lU];exact .aC _ _ _ _ _ _ _ _ (hid _ bJ) hlen jX
  ·simp only [dv he,oF];have:=kL (bz.aC σ h i len b s C cap bJ hlen jX) (by simp only [lG];rw [nz h he];exact dV) bC;simp only [ak.kL] at this;rw [nz h he] at this;exact this
 |ih DI h bJ=>
  rw [oV] at bJ;intro bC hid dV;simp only [ak.l4];by_cases he:h=id
  ·subst he;simp only [pD,lU];exact .ih _ _ (hid _ bJ)
  ·simp only [dv he,oF];have:=kL (bz.ih σ h bJ) (by simp only [lG];rw [nz h he];exact dV) bC;simp only [ak.kL] at this;rw [nz h he] at this;exact this
 |cK _ c i j b o val e9 aw iy U ba=>intro bC _ _;exact .cK _ _ _ _ _ _ val (dq _ e9) aw (fun e he=>kO (iy e he)) U
 |ptr DI h i j b s C bJ=>
  rw [oV] at bJ;intro bC hid dV;simp only [ak.l4];by_cases he:h=id
  ·subst he;simp only [pD,lU];exact .ptr _ _ _ _ _ _ _ (hid _ bJ)
  ·simp only [dv he,oF];have:=kL (bz.ptr σ h i j b s C bJ) (by simp only [lG];rw [nz h he];exact dV) bC;simp only [ak.kL] at this;rw [nz h he] at this;exact this
 |pP=>intros;constructor
 |fn _ f cap vs au ai ba=>intro bC hid dV;exact .fn _ _ _ _ (by rw [Ar];exact au) (fun i aa=>by rw [Ar] at aa;rw [Oa H id new cap i aa];exact ba i aa oV bC hid (AD dV i aa))
 |pO=>intros;constructor
 |iface=>intros;constructor
 |oh=>intros;constructor
 |agg _ l vs au ai U ba=>intro bC hid dV;exact .agg _ _ _ (by rw [Ar];exact au) (fun i aa=>by rw [Ar] at aa;rw [Oa H id new l i aa];exact ba i aa oV bC hid (AD dV i aa)) (fun i aa=>U i (by rwa [Ar] at aa))
 |mp DI h b bJ=>
  rw [oV] at bJ;intro bC hid dV;simp only [ak.l4];by_cases he:h=id
  ·subst he;simp only [pD,lU];exact .mp _ _ _ (hid _ bJ)
  ·simp only [dv he,oF];have:=kL (bz.mp σ h b bJ) trivial bC;simp only [ak.kL] at this⊢;rw [nz h he] at this;exact this
 |hr _ ks vs b es clock e e9 al aI au hd he an ai MT MV=>intro bC _ _;exact .hr _ _ _ b es clock e (dq _ e9) al aI au hd he (fun i aa=>kO (an i aa)) (fun i aa=>kO (ai i aa))
 |cn _ l vs au ai ba=>intro bC hid dV;exact .cn _ _ _ (by rw [Ar];exact au) (fun i aa=>by rw [Ar] at aa;rw [Oa H id new l i aa];exact ba i aa oV bC hid (AD dV i aa))
 |any=>intros;constructor
mutual
def flat:ak→Bool
 | .ro _ _ n=>Nat.beq n 0
 | .cK _ _ _=>false
 | .fn _ l=>sS l
 | .agg l=>sS l
 | .cn l=>sS l
 | .hr _ _=>false
 |_=>true
def sS:List ak→Bool
 |[]=>true
 |v::r=>flat v && sS r
end
theorem FH {l:List ak}(h:sS l=true)(i:Nat)(aa:i<l.length):flat (l.getD i .any)=true:=by
 have bZ:= ‹bA›;induction l generalizing i with
 |nil=>simp at aa
 |cons v r ba=>
  simp only [sS,eb] at h;cases i with
  |zero=>simpa using h.1
  |succ i=>simpa using ba h.2 i (by simpa using aa)
theorem bz.flat {w:World}{S:Nat→Prop}{σ:Nat→Option bQ}{x:ak}{v:Value}(h:bz w S σ x v):flat x=true→ ∀ca,bz w ca σ x v:=by
 induction h with
 |int=>intros;constructor
 |bool=>intros;constructor
 |str=>intros;constructor
 |nil=>intros;constructor
 |kq=>intros;constructor
 |ro σ c i len b o cap val e9 hlen aw ai U ba=>
  intro aQ ca;have:=pC aQ;subst this;exact .kq _ _ _ _ _
 |aC σ h i len b s C cap bJ hlen jX=>intro _ ca;exact .aC _ _ _ _ _ _ _ _ bJ hlen jX
 |ih σ h bJ=>intro _ ca;exact .ih _ _ bJ
 |cK=>intro h;cases h
 |ptr σ h i j b s C bJ=>intro _ ca;exact .ptr _ _ _ _ _ _ _ bJ
 |pP=>intros;constructor
 |fn σ f cap vs au ai ba=>intro aI ca;exact .fn _ _ _ _ au (fun i aa=>ba i aa (FH aI i aa) _)
 |pO=>intros;constructor
 |iface=>intros;constructor
 |oh=>intros;constructor
 |agg σ l vs au ai U ba=>intro aI ca;exact .agg _ _ _ au (fun i aa=>ba i aa (FH aI i aa) _) U
 |cn σ l vs au ai ba=>intro aI ca;exact .cn _ _ _ au (fun i aa=>ba i aa (FH aI i aa) _)
 |mp σ h b bJ=>intro _ ca;exact .mp _ _ _ bJ
 |hr=>intro h;cases h
 |any=>intros;constructor
def Hh:Cells→Prop
 | .mp ks vs=>sS ks=true∧sS vs=true
 |c=> ∀i j,i<c.len→j<c.aD→flat (c.at i j)=true
theorem Hh.row {c:Cells}(h:Hh c): ∀i j,i<c.len→j<c.aD→flat (c.at i j)=true:=by have bZ:= ‹bA›;cases c<;>first|exact h|exact fun i j aa=>absurd aa (gg _)
theorem acd {c:Cells}(h:Hh c){ks vs:List ak}(aw:c= .mp ks vs):sS ks=true∧sS vs=true:=by have bZ:= ‹bA›;subst aw;exact h
def wN (js H:aZ):Prop:= ∀(h:Nat) (o:bl),js[h]? =some (some o)→H[h]? =some (some o)
def QO (σ:Nat→Option bQ)(js:aZ)(b:Nat):Prop:= ∃h o s C,js[h]? =some (some o)∧σ h=some (.at b s C)
theorem ch.over {P:Program}{f:FuncId}{args sf:List ak}{fix:Nat→Prop}{K kE:ak→aZ→Prop}{H js:aZ}(aw:ch P f args [] fix K)(kn: ∀h,¬fix h)(iW:wN js H)(afm: ∀(h:Nat) (o:bl),js[h]? =some (some o)→eZ o.c)(EH:ak.qp js sf=args)(dV:mG js sf)(aI:cM.eM args=true)(dH: ∀(cV:ak) (b5:aZ),K cV b5→lG b5 cV∧(∀(h:Nat) (o:bl),b5[h]? =some (some o)→eZ o.c)∧ ∃(id:Nat) (o:bl),(b5.length≤id∧kE (cV.l4 b5 id H.length) H∧((∀(h:Nat) (o:bl),js[h]? ≠some (some o))∨flat (cV.l4 b5 id H.length)=true))∨
  (b5[id]? =some (some o)∧kE (cV.l4 b5 id H.length) (H++[some o])∧((∀(h:Nat) (o:bl),js[h]? ≠some (some o))∨(flat (cV.l4 b5 id H.length)=true∧Hh o.c)))):
 ch P f sf H (fun h=>h<H.length) kE:=by
 refine ⟨aw.1,fun w σ S dD aF ad aQ ai=> ?_⟩
 let K2:Nat→Prop:=fun b=>S b∨QO σ js b
 have acT: ∀b,QO σ js b→b<w.heap.size:=by
  rintro b ⟨h,o,s,C,U,ab⟩;rcases ad.live h o (iW h o U) with ⟨aI,_⟩|⟨b',cL,cur,fq,g,_⟩
  ·rw [ab] at aI;cases aI
  ·rw [ab] at fq;simp only [dC,bQ.at.injEq] at fq;rw [fq.1];exact g.lt
 have HV:lT w K2 (fun _=>none) []:=⟨fun h o ah=>by simp at ah,fun h aS o o' b s C cy cL U=>by simp at U,fun b al=>al.elim (ad.small b) (acT b),fun _ _=>rfl⟩
 have acS:A3 w S σ js:=fun h o ah=>ad.live h o (iW h o ah);have mX:pv w K2 (fun _=>none) args dD:=by subst EH;refine ⟨by rw [ai.1,wT],fun i aa=> ?_⟩;rw [wT] at aa;rw [Jx js sf i aa];exact bz.freeze acS afm (fun _ h=> .inl h) (fun h o b s C U ab=> .inr ⟨h,o,s,C,U,ab⟩) (ai.2 i aa) _ (AD dV i aa)
 refine (aw.2 w (fun _=>none) K2 dD (aF.less (fun _ h=> .inl h) (fun _ h=>h.nil)) HV (fun h aV=>absurd aV (kn h)) mX).mono ?_;rintro e w' ⟨v,cV,bC,ca,b5,rfl,g1,g2,g3,g4⟩;obtain ⟨ee,fg,id,o,gC⟩:=dH cV b5 g4;have fU: ∀b,¬rO (fun _=>none) [] b:=by rintro b ⟨h,o,s,C,U,_⟩;simp at U
 have pF: ∀b,b<w.heap.size→w'.heap[b]? =w.heap[b]? :=fun b al=>g3.block b al (fU b);have ny: ∀h o b s C,b5[h]? =some (some o)→bC h=some (.at b s C)→w.heap.size≤b∧b<w'.heap.size:=by
  intro h o b s C U ab;refine ⟨?_,?_⟩
  ·rcases g3.own h o b s C U ab with ay|ay
   ·exact absurd ay (fU b)
   ·exact ay
  ·rcases g1.live h o U with ⟨aI,_⟩|⟨b',cL,cur,fq,g,_⟩
   ·rw [ab] at aI;cases aI
   ·rw [ab] at fq;simp only [dC,bQ.at.injEq] at fq;rw [fq.1];exact g.lt
 let KZ:Nat→Prop:=fun b=> ∃h o s C,h≠id∧b5[h]? =some (some o)∧bC h=some (.at b s C)
 let e5:Nat→Prop:=fun b=>S b∨(w.heap.size≤b∧(ca b∨KZ b))
 have mq:(∀(h:Nat) (o:bl),js[h]? ≠some (some o))→ ∀b,ca b∨KZ b→e5 b:=by
  intro jZ b al;rcases al with al|al
  ·rcases g3.e5 b al with U|U|U
   ·rcases U with U|⟨h,o,s,C,U,_⟩
    ·exact .inl U
    ·exact absurd U (jZ h o)
   ·exact absurd U (fU b)
   ·exact .inr ⟨U,.inl al⟩
  ·obtain ⟨h,o,s,C,U,ab,ay⟩:=al;exact .inr ⟨(ny h o b s C ab ay).1,.inr ⟨h,o,s,C,U,ab,ay⟩⟩
 have ada: ∀b,b<w.heap.size→e5 b→S b:=by
  intro b al av;rcases av with U|⟨U,_⟩
  ·exact U
  ·omega
 have RP: ∀b,e5 b→b<w'.heap.size:=by
  intro b av;rcases av with U|⟨_,U|⟨h,o,s,C,_,ab,ay⟩⟩
  ·have:=ad.small b U;have:=g3.size;simp only [ov] at this;omega
  ·exact g1.small b U
  ·exact (ny h o b s C ab ay).2
 --the old objects
 have hold: ∀uo:Nat→Option bQ,(∀h B,σ h=some B→uo h=some B)→A3 w' e5 uo H:=by
  intro uo x9 h o ah;rcases ad.live h o ah with ⟨aI,jA⟩|⟨b,C,cur,U,ab,ay,bf,bL,dz,fx⟩
  ·exact .inl ⟨x9 _ _ aI,jA⟩
  ·right;have bD:=ab.lt;refine ⟨b,C,cur,x9 _ _ U,ab.mono (pF b bD) (fun h=>h.mono (fun _ h=> .inl h) (fun b al=>pF b (ad.small b al)) _ x9),ay,bf,bL,fun av=>dz (ada b bD av),fun i j aa ae=> ?_⟩;obtain ⟨v,aH,aJ,bR⟩:=fx i j aa ae;exact ⟨v,aH,aJ.mono (fun _ h=> .inl h) (fun b al=>pF b (ad.small b al)) _ x9,bR⟩
 have HW: ∀uo:Nat→Option bQ,(∀B,bC id=some B→uo H.length=some B)→bz w' (fun b=>ca b∨KZ b) uo (cV.l4 b5 id H.length) v:=fun uo ab=>
  bz.l4 g1.live fg (fun _ h=> .inl h) (fun h o b s C cd U ay=> .inr ⟨h,o,s,C,cd,U,ay⟩) g2 uo ab ee
 rcases gC with ⟨gC,rp,tD⟩|⟨gC,rp,tD⟩
 ·refine ⟨v,_,σ,e5,H,I,⟨hold σ (fun _ _ h=>h),ad.hJ,RP,ad.ie⟩,?_,⟨g3.os,g3.output,g3.tape,g3.size,fun b al _=>pF b al,fun b al=> .inl al,fun b al=>al.elim .inl (fun h=> .inr (.inr h.1)),fun _ _=>rfl,fun _ h=>h,fun h o b s C U ab=> .inl ⟨h,o,s,C,U,ab⟩⟩,rp⟩;have U:=HW σ (fun B ck=>by rw [g1.ie id gC] at ck;cases ck);rcases tD with jZ|gP
  ·exact U.mono (mq jZ) (fun _ _=>rfl) _ (fun _ _ h=>h)
  ·exact U.flat gP _
 ·have Sm:=g1.live id o gC;obtain ⟨B,ck⟩: ∃B,bC id=some B:=by
   rcases Sm with ⟨h,_⟩|⟨b,C,cur,h,_⟩
   ·exact ⟨_,h⟩
   ·exact ⟨_,h⟩
  have ob: ∀h y8,σ h=some y8→cN σ H.length B h=some y8:=by
   intro h y8 uF;unfold cN;split
   ·rename_i he;rw [he,ad.ie _ (bT _)] at uF;cases uF
   ·exact uF
  have c9: ∀aS o',(H++[some o])[aS]? =some (some o')→(aS=H.length∧o'=o)∨(aS<H.length∧H[aS]? =some (some o')):=by
   intro aS o' ah;by_cases he:aS<H.length
   ·rw [hQ he] at ah;exact .inr ⟨he,ah⟩
   ·by_cases km:aS=H.length
    ·subst km;simp at ah;exact .inl ⟨rfl,ah.symm⟩
    ·have:(H++[some o]).length≤aS:=by simp;omega
     rw [kG this] at ah;cases ah
  have HP: ∀h o' b s cL,h<H.length→H[h]? =some (some o')→σ h=some (.at b s cL)→b<w.heap.size:=by
   intro h o' b s cL _ ah al;rcases ad.live h o' ah with ⟨aI,_⟩|⟨b',cL,cur,fq,g,_⟩
   ·rw [al] at aI;cases aI
   ·rw [al] at fq;simp only [dC,bQ.at.injEq] at fq;rw [fq.1];exact g.lt
  have oU: ∀h,h<H.length→cN σ H.length B h=σ h:=fun h au=>by simp [cN,pw au]
  refine ⟨v,_,cN σ H.length B,e5,H++[some o],I,⟨?_,?_,RP,fun h au=> ?_⟩,?_,⟨g3.os,g3.output,g3.tape,g3.size,fun b al _=>pF b al,fun b al=> .inl al,fun b al=>al.elim .inl (fun h=> .inr (.inr h.1)),fun h au=>oU h au,fun h au=>by have ld:h<H.length:=au;simp;omega,fun h o' b s C U ab=> ?_⟩,rp⟩
  ·intro aS o' ah;rcases c9 aS o' ah with ⟨rfl,rfl⟩|⟨bD,cP⟩
   ·rcases Sm with ⟨aI,jA⟩|⟨b,C,cur,U,ab,ay,bf,bL,dz,fx⟩
    ·left;rw [ck] at aI;exact ⟨by simp [cN,aI],jA⟩
    ·right;have so:=ny id o' b _ C gC U;rw [ck] at U;have hn: ∀{x v},bz w' ca bC x v→cM x=true→((∀(h:Nat) (o:bl),js[h]? ≠some (some o))∨flat x=true)→bz w' e5 (cN σ H.length B) x v:=fun aJ uN an=>by
      have jw:=aJ.closed uN (cN σ H.length B);rcases an with jZ|gP
      ·exact jw.mono (fun b al=>mq jZ b (.inl al)) (fun _ _=>rfl) _ (fun _ _ h=>h)
      ·exact jw.flat gP _
     have wc:Lays w' e5 (cN σ H.length B) o' b cur C:=by
      cases ab with
      |row mk h hm ed=>exact .row mk h hm ed
      |map ks vs es clock aw ed h aI au hd he=>
       have B3:=(fg id o' gC).mp aw;have Sg:((∀(h:Nat) (o:bl),js[h]? ≠some (some o))∨(sS ks=true∧sS vs=true)):=by
        rcases tD with h|h
        ·exact .inl h
        ·exact .inr (acd h.2 aw)
       refine .map ks vs es clock aw ed h aI au hd (fun i aa=> ?_);obtain ⟨e,aH,aJ,bR⟩:=he i aa;exact ⟨e,aH,hn aJ (wX B3.1 i aa) (Sg.imp (fun h=>h) (fun h=>FH h.1 i aa)),hn bR (wX B3.2 i J) (Sg.imp (fun h=>h) (fun h=>FH h.2 i J))⟩
     refine ⟨b,C,cur,by simp [cN,U],wc,ay,bf,bL,?_,fun i j aa ae=> ?_⟩
     ·rintro (av|⟨_,av|⟨ar,ahA,akp,Zv,cd,afQ,Ab⟩⟩)
      ·have:=ad.small b av;omega
      ·exact dz av
      ·exact cd (g1.hJ ar id ahA o' b akp Zv _ C afQ gC Ab (by rw [ck];exact U))
     ·obtain ⟨u,aH,aJ,bR⟩:=fx i j aa ae;refine ⟨u,aH,?_,bR⟩;have jw:=aJ.closed ((fg id o' gC).row i j aa ae) (cN σ H.length B);rcases tD with jZ|gP
      ·exact jw.mono (fun b al=>mq jZ b (.inl al)) (fun _ _=>rfl) _ (fun _ _ h=>h)
      ·exact jw.flat (gP.2.row i j aa ae) _
   ·exact hold _ ob aS o' cP
  ·intro U ab o1 o2 b s1 gI s2 gx bS bY aH aJ;rcases c9 U o1 bS with ⟨rfl,rfl⟩|⟨fW,Cj⟩<;>rcases c9 ab o2 bY with ⟨rfl,rfl⟩|⟨fK,Ck⟩
   ·rfl
   ·simp only [cN,gf] at aH;rw [oU ab fK] at aJ;have:=HP ab o2 b s2 gx fK Ck aJ;have:=(ny id o1 b s1 gI gC (by rw [ck];exact aH)).1;omega
   ·simp only [cN,gf] at aJ;rw [oU U fW] at aH;have:=HP U o1 b s1 gI fW Cj aH;have:=(ny id o2 b s2 gx gC (by rw [ck];exact aJ)).1;omega
   ·rw [oU U fW] at aH;rw [oU ab fK] at aJ;exact ad.hJ U ab o1 o2 b s1 gI s2 gx Cj Ck aH aJ
  ·simp only [c8,gK,lv] at au;have: ¬h=H.length:=J;simp only [cN,this,hH];exact ad.ie h J
  ·have U:=HW (cN σ H.length B) (fun y8 uF=>by rw [ck] at uF;simp only [dC] at uF;simp [cN,uF]);rcases tD with jZ|gP
   ·exact U.mono (mq jZ) (fun _ _=>rfl) _ (fun _ _ h=>h)
   ·exact U.flat gP.1 _
  ·rcases c9 h o' U with ⟨rfl,rfl⟩|⟨bD,cP⟩
   ·simp only [cN,gf] at ab;exact .inr (ny id o' b s C gC (by rw [ck];exact ab)).1
   ·rw [oU h bD] at ab;exact .inl ⟨h,o',s,C,cP,ab⟩
theorem aoA (H:aZ):wN H H:=have bZ:= ‹bA›;fun _ _ h=>h
theorem akh (H:aZ):wN [] H:=have bZ:= ‹bA›;fun h o aV=>by simp at aV
theorem bs.M3 {P:Program}{f:FuncId}{args sf:List ak}{r:ak}{H:aZ}(aw:bs P f args r)(fa: ∀(h:Nat) (o:bl),H[h]? =some (some o)→eZ o.c)(EH:ak.qp H sf=args)(dV:mG H sf)(aI:cM.eM args=true)(ad:cM r=true)(gP:flat r=true):
 ch P f sf H (fun h=>h<H.length) (fun dB bK=>dB=r∧bK=H):=by refine ch.over (aw []) (fun h aV=>by simp at aV) (aoA H) fa EH dV aI ?_;rintro cV b5 ⟨rfl,rfl⟩;have an:cV.l4 [] 0 H.length=cV:=MY ad;refine ⟨MW ad,fun h o ah=>by simp at ah,0,⟨0,.ints .i64 []⟩,.inl ⟨bT _,⟨an,I⟩,.inr (by rw [an];exact gP)⟩⟩
where
 MY {id new:Nat} {y9:aZ}: ∀{v:ak},cM v=true→v.l4 y9 id new=v
  | .int _ _,_=>rfl
  | .bool _,_=>rfl
  | .str _,_=>rfl
  | .nil,_=>rfl
  | .ro _ _ _,_=>rfl
  | .aC _ _ _,ai=>by cases ai
  | .cK _ _ _,_=>rfl
  | .ptr _ _ _,ai=>by cases ai
  | .pP,_=>rfl
  | .fn f l,ai=>by simp only [ak.l4];rw [ks l ai]
  | .pO,_=>rfl
  | .iface,_=>rfl
  | .oh,_=>rfl
  | .agg l,ai=>by simp only [ak.l4];rw [ks l ai]
  | .cn l,ai=>by simp only [ak.l4];rw [ks l ai]
  | .mp _,ai=>by cases ai
  | .hr _ _,_=>rfl
  | .any,_=>rfl
 ks {id new:Nat} {y9:aZ}: ∀(l:List ak),cM.eM l=true→ak.keeps y9 id new l=l
  |[],_=>rfl
  |v::r,ai=>by simp only [cM.eM,eb] at ai;simp only [ak.keeps];rw [MY ai.1,ks r ai.2]
 MW {y9:aZ}: ∀{v:ak},cM v=true→lG y9 v
  | .int _ _,_=>trivial
  | .bool _,_=>trivial
  | .str _,_=>trivial
  | .nil,_=>trivial
  | .ro _ _ _,_=>trivial
  | .aC _ _ _,ai=>by cases ai
  | .cK _ _ _,_=>trivial
  | .ptr _ _ _,ai=>by cases ai
  | .pP,_=>trivial
  | .fn _ l,ai=>Ib l ai
  | .pO,_=>trivial
  | .iface,_=>trivial
  | .oh,_=>trivial
  | .agg l,ai=>Ib l ai
  | .cn l,ai=>Ib l ai
  | .mp _,ai=>by cases ai
  | .hr _ _,_=>trivial
  | .any,_=>trivial
 Ib {y9:aZ}: ∀(l:List ak),cM.eM l=true→mG y9 l
  |[],_=>trivial
  |v::r,ai=>by simp only [cM.eM,eb] at ai;exact ⟨MW ai.1,Ib r ai.2⟩
theorem ch.fresh {P:Program}{f:FuncId}{args:List ak}{fix:Nat→Prop}{r:Nat→ak}{o:bl}{K:ak→aZ→Prop}(aw:ch P f args [] fix K)(kn: ∀h,¬fix h)(aI:cM.eM args=true)(a8: ∀H:aZ,ak.qp [] args=args∧mG H args)(dH: ∀(cV:ak) (b5:aZ),K cV b5→lG b5 cV∧(∀(h:Nat) (o:bl),b5[h]? =some (some o)→eZ o.c)∧ ∃id,b5[id]? =some (some o)∧ ∀n,cV.l4 b5 id n=r n):ud P f args r o:=by intro H;refine ch.over aw kn (akh H) (fun h o ah=>by simp at ah) (a8 []).1 (a8 []).2 aI ?_;intro cV b5 aU;obtain ⟨U,ab,id,ay,bf⟩:=dH cV b5 aU;exact ⟨U,ab,id,o,.inr ⟨ay,⟨bf _,I⟩,.inl (fun h o=>by simp)⟩⟩
end Go.aj
namespace Go.aj
variable [bA]
open Go.RowKit
section
variable {ind:Bool}{P:Program}{fn:Func}{c:Ctx}{fr:Fr}{H:aZ}{k:List eF}
variable {d:Option Nat}{ty:TypeId}{pos:String}{after:Array Edge}{g:Option (Nat×Bool)}
theorem h8 {x i:Operand}{t e:TypeId}{dY:Cells}{o len ix:Nat}{k:IntKind}{m:Int}(bu:P.underlying t=some (.slice e))(av:(P.info? e).map (·.size)=some dY.aD)(ar:bG fr x=some (.ro dY o len))(aa:bG fr i=some (.int k m))(zP:o+m.toNat=ix)(al:0≤m∧m<len):
 b1 ind P fn c fr H ⟨d,.indexAddr t x i,ty,pos,after,g⟩ (.cK dY ix 0):=zP▸amF bu av ar aa al
theorem gd {x i:Operand}{t e:TypeId}{h o len ix:Nat}{bg:bl}{k:IntKind}{m:Int}(bu:P.underlying t=some (.slice e))(ar:bG fr x=some (.aC h o len))(aV:H[h]? =some (some bg))(av:(P.info? e).map (·.size)=some bg.c.aD)(aa:bG fr i=some (.int k m))(zP:o+m.toNat=ix)(al:0≤m∧m<len):
 b1 ind P fn c fr H ⟨d,.indexAddr t x i,ty,pos,after,g⟩ (.ptr h ix 0):=zP▸amG bu ar aV av aa al
theorem vc {x:Operand}{t:TypeId}{u:TypeDesc}{ey:IntKind}{l:List Int}{i:Nat}(bu:P.underlying t=some u)(hu:jn u=false)(ar:bG fr x=some (.cK (.ints ey l) i 0)):
 b1 false P fn c fr H ⟨d,.load t x,ty,pos,after,g⟩ (.int ey (l.getD i 0)):=JE bu hu ar rfl rfl
theorem Oh {x:Operand}{t:TypeId}{u:TypeDesc}{l:List (List UInt8)}{i:Nat}(bu:P.underlying t=some u)(hu:jn u=false)(ar:bG fr x=some (.cK (.strs l) i 0)):
 b1 false P fn c fr H ⟨d,.load t x,ty,pos,after,g⟩ (.str (l.getD i [])):=JE bu hu ar rfl rfl
theorem tL {x:Operand}{t:TypeId}{u:TypeDesc}{n s:Nat}{f:Nat→Nat→ak}{i j:Nat}(bu:P.underlying t=some u)(hu:jn u=false)(ar:bG fr x=some (.cK (.fn n s f) i j))(ae:Nat.blt j s=true):
 b1 false P fn c fr H ⟨d,.load t x,ty,pos,after,g⟩ (f i j):=JE bu hu ar ae rfl
theorem Fo {x:Operand}{t:TypeId}{u:TypeDesc}{h i:Nat}{oX:TypeId}{ey:IntKind}{l:List Int}(bu:P.underlying t=some u)(hu:jn u=false)(ar:bG fr x=some (.ptr h i 0))(aV:H[h]? =some (some ⟨oX,.ints ey l⟩))(aa:i<l.length):
 b1 false P fn c fr H ⟨d,.load t x,ty,pos,after,g⟩ (.int ey (l.getD i 0)):=Jl bu hu ar aV rfl rfl aa
theorem amv {x:Operand}{t:TypeId}{u:TypeDesc}{h i:Nat}{oX:TypeId}{l:List (List UInt8)}(bu:P.underlying t=some u)(hu:jn u=false)(ar:bG fr x=some (.ptr h i 0))(aV:H[h]? =some (some ⟨oX,.strs l⟩))(aa:i<l.length):
 b1 false P fn c fr H ⟨d,.load t x,ty,pos,after,g⟩ (.str (l.getD i [])):=Jl bu hu ar aV rfl rfl aa
theorem Cx {x:Operand}{t:TypeId}{u:TypeDesc}{h i j:Nat}{oX:TypeId}{n s:Nat}{f:Nat→Nat→ak}(bu:P.underlying t=some u)(hu:jn u=false)(ar:bG fr x=some (.ptr h i j))(aV:H[h]? =some (some ⟨oX,.fn n s f⟩))(ae:Nat.blt j s=true)(aa:i<n):
 b1 false P fn c fr H ⟨d,.load t x,ty,pos,after,g⟩ (f i j):=Jl bu hu ar aV ae rfl aa
theorem hO {x:Operand}{t:TypeId}{u:TypeDesc}{h j:Nat}{oX:TypeId}{l:List ak}{v:ak}(bu:P.underlying t=some u)(hu:jn u=false)(ar:bG fr x=some (.ptr h 0 j))(aV:H[h]? =some (some ⟨oX,.box l⟩))(ai:l[j]? =some v):
 b1 false P fn c fr H ⟨d,.load t x,ty,pos,after,g⟩ v:=by have ae:j<l.length:=(hi.1 ai).1;exact Jl bu hu ar aV (q4 ae) (by simp [Cells.at,List.getD,ai]) (by simp [Cells.len])
theorem gQ {q:Bool}{all:Array Oper}{d:Option Nat}{op:Op}{ty:TypeId}{pos:String}{after:Array Edge}{rest:List Oper}{j t:Nat}{pQ:Bool}{p:Prop}{_:Decidable p}(apM:qW all j=some t)(al:look t fr=some (.bool (decide p)))(bu:p→aj P fn c (.ops q all (⟨d,op,ty,pos,after,some (j,pQ)⟩::rest) k) ((t,.bool true)::fr) H)(aQ: ¬p→aj P fn c (.ops q all (⟨d,op,ty,pos,after,some (j,pQ)⟩::rest) k) ((t,.bool false)::fr) H):aj P fn c (.ops q all (⟨d,op,ty,pos,after,some (j,pQ)⟩::rest) k) fr H:=
 alG t al bu aQ
theorem IK {op:BinOp}{t:TypeId}{x y:Operand}{a b:Option Addr}{m n kp E9:Nat}{w:World}:(eqGuard op t x y (.slice a m n) (.slice b kp E9)).run P w= .ok () w:=by have bZ:= ‹bA›;unfold eqGuard;split<;>rfl
theorem O9 {all:Array Oper}{d:Nat}{x y:Operand}{t cF e:TypeId}{ty:TypeId}{pos:String}{after:Array Edge}{rest:List Oper}{dY:Cells}{i n:Nat}(bu:P.underlying t=some (.slice e))(ar:bG fr x=some (.ro dY i n))(a1:bG fr y=some .nil)(h: ∀b:Bool,(b=true→n=0)→aj P fn c (.ops false all rest k) ((d,.bool b)::fr) H):aj P fn c (.ops false all (⟨some d,.binOp .eql t x y cF,ty,pos,after,none⟩::rest) k) fr H:=by
 intro hd w a σ S ad;obtain ⟨jg,kl⟩:=tR hd;have U:=ad.dL ar;have ab:=ad.dL a1;generalize bw:a.eval x=z at U;generalize mu:a.eval y=QF at ab;have key: ∃b:Bool,(b=true→n=0)∧(execOp a.eval ⟨some d,.binOp .eql t x y cF,ty,pos,after,none⟩).run P w= .ok (.value (.bool b)) w:=by
  cases ab;cases U with
  |kq _ _ _ ia cap=>
   refine ⟨ia.isNone,fun _=>rfl,?_⟩;have al:=Lib.run_eql_slice_nil (P:=P) w t e ia 0 cap 0 0 bu;simp only [execOp,bw,mu,Sem.run_bind,IK,Result.andThen_ok,al];rfl
  |ro _ _ _ _ b o cap val dq hlen aw ai gB=>
   refine ⟨false,(fun h=>by cases h),?_⟩;have al:=Lib.run_eql_slice_nil (P:=P) w t e (some ⟨b,o,none⟩) n cap 0 0 bu;simp only [execOp,bw,mu,Sem.run_bind,IK,Result.andThen_ok,al];rfl
 obtain ⟨b,al,dR⟩:=key;refine wpList_step (fun K dH=> ?_);simp only [Region.wanted,gf];unfold Oper.wp;rw [dR];exact dH _ _ (h b al kl w _ σ S (ad.put (.bool _ _) (jg d I)))
theorem cc.ahm {w:World}{a:Act}{σ:Nat→Option bQ}{S:Nat→Prop}{n:Nat}(ad:cc c w a σ S n fr H){o:bl}(ah:o.c.len=0){t:Nat}(au:look t fr=some .nil):cc c w a (cN σ H.length .l5) S n ((t,.aC H.length 0 0)::fr) (H++[some o]):=by
 have ob: ∀h B,σ h=some B→cN σ H.length .l5 h=some B:=by
  intro h B ck;unfold cN;split
  ·rename_i he;rw [he,ad.ad.ie _ (bT _)] at ck;cases ck
  ·exact ck
 have ai: ∀{x v},bz w S σ x v→bz w S (cN σ H.length .l5) x v:=fun h=>h.mono (fun _ h=>h) (fun _ _=>rfl) _ ob;have c9: ∀aS o',(H++[some o])[aS]? =some (some o')→(aS=H.length∧o'=o)∨(aS<H.length∧H[aS]? =some (some o')):=by
  intro aS o' ah;by_cases he:aS<H.length
  ·rw [hQ he] at ah;exact .inr ⟨he,ah⟩
  ·by_cases km:aS=H.length
   ·subst km;simp at ah;exact .inl ⟨rfl,ah.symm⟩
   ·have:(H++[some o]).length≤aS:=by simp;omega
    rw [kG this] at ah;cases ah
 have oU: ∀h,h<H.length→cN σ H.length .l5 h=σ h:=fun h au=>by simp [cN,pw au]
 have hB:cN σ H.length .l5 H.length=some .l5:=by simp [cN]
 have aq:cc c w a (cN σ H.length .l5) S n fr (H++[some o]):=by
  refine ⟨⟨?_,?_,ad.ad.small,fun h au=> ?_⟩,⟨ad.bj.os,ad.bj.output,ad.bj.tape,ad.bj.size,ad.bj.block,ad.bj.hX,ad.bj.e5,fun h aQ=>by rw [oU h (ad.bj.jx h aQ)];exact ad.bj.fixed h aQ,fun h aQ=>by have:=ad.bj.jx h aQ;simp;omega,?_⟩,ad.defers,ad.size,fun t v au=>⟨(ad.fl t v au).1,ai (ad.fl t v au).2⟩⟩
  ·intro aS o' cP;rcases c9 aS o' cP with ⟨rfl,rfl⟩|⟨bD,cP⟩
   ·exact .inl ⟨hB,ah⟩
   ·rcases ad.ad.live aS o' cP with ⟨aI,jA⟩|⟨b',cL,iV,g1,g2,g3,g4,g5,g6,g7⟩
    ·exact .inl ⟨ob _ _ aI,jA⟩
    ·right;refine ⟨b',cL,iV,ob _ _ g1,g2.mono I ai,g3,g4,g5,g6,fun i j aa ae=> ?_⟩;obtain ⟨v,aH,aJ,bR⟩:=g7 i j aa ae;exact ⟨v,aH,ai aJ,bR⟩
  ·intro U ab o1 o2 b s1 gI s2 gx bS bY aH aJ;rcases c9 U o1 bS with ⟨rfl,rfl⟩|⟨fW,Cj⟩
   ·rw [hB] at aH;cases aH
   ·rcases c9 ab o2 bY with ⟨rfl,rfl⟩|⟨fK,Ck⟩
    ·rw [hB] at aJ;cases aJ
    ·rw [oU U fW] at aH;rw [oU ab fK] at aJ;exact ad.ad.hJ U ab o1 o2 b s1 gI s2 gx Cj Ck aH aJ
  ·simp only [c8,gK,lv] at au;have: ¬h=H.length:=J;simp only [cN,this,hH];exact ad.ad.ie h J
  ·intro aS o' b s C ah al;rcases c9 aS o' ah with ⟨rfl,rfl⟩|⟨bD,cP⟩
   ·rw [hB] at al;cases al
   ·rw [oU aS bD] at al;exact ad.bj.own aS o' b s C cP al
 refine ⟨aq.ad,aq.bj,aq.defers,aq.size,fun u y a1=> ?_⟩;simp only [look] at a1;by_cases he:u=t
 ·subst he;simp only [pD,lU,dC] at a1;subst a1;obtain ⟨U,ab⟩:=ad.fl u _ au;refine ⟨U,?_⟩;generalize a.tmps.getD u undef=z at ab;cases ab;exact .ih _ _ hB
 ·simp only [dv he,oF] at a1;exact aq.fl u y a1
theorem jF {x:Code}(t:Nat)(o:bl)(au:look t fr=some .nil)(ah:o.c.len=0)(h:aj P fn c (.code x k) ((t,.aC H.length 0 0)::fr) (H++[some o])):aj P fn c (.code x k) fr H:=
 fun w a _ S ad=>h w a _ S (ad.ahm ah au)
def nj (abh:Nat):Option ak→Option Int
 |none=>some abh
 |some (.int _ n)=>some n
 |some _=>none
def mO (fr:Fr):Option Operand→Option (Option ak)
 |none=>some none
 |some x=>match bG fr x with
  |some v=>some (some v)
  |none=>none
theorem IP {w:World}{x:Value}{k:IntKind}{m:Int}{y:Nat}{code:BoundsCode}(ar:x= .int k m)(al:0≤m∧m≤y):(Instr.sliceBound x y code).run P w= .ok m.toNat w:=by have bZ:= ‹bA›;subst ar;simp [Instr.sliceBound,asIntOf,al]
theorem Aq {a:Act}{dM w:World}{σ:Nat→Option bQ}{S:Nat→Prop}{n:Nat}(ad:cc c dM a σ S n fr H){ji aa:Option Operand}{mv aL:Option ak}{len cap:Nat}{l h:Int}{Ae:Bool}(U:mO fr ji=some mv)(ab:mO fr aa=some aL)(ay:nj 0 mv=some l)(bf:nj len aL=some h)(al:0≤l∧l≤h∧h≤cap):
 (Instr.sliceBounds Ae len cap (ji.map a.eval) (aa.map a.eval) none).run P w= .ok (l.toNat,h.toNat,cap) w:=by
 have aH: ∀(x:Operand),ji=some x→ ∃k,a.eval x= .int k l:=by
  rintro x rfl;simp only [mO] at U;cases ar:bG fr x with
  |none=>simp [ar] at U
  |some v=>
   simp only [ar,dC] at U;subst U;cases v<;>simp [nj] at ay;subst ay;exact ⟨_,ad.ff ar⟩
 have aJ: ∀(x:Operand),aa=some x→ ∃k,a.eval x= .int k h:=by
  rintro x rfl;simp only [mO] at ab;cases ar:bG fr x with
  |none=>simp [ar] at ab
  |some v=>
   simp only [ar,dC] at ab;subst ab;cases v<;>simp [nj] at bf;subst bf;exact ⟨_,ad.ff ar⟩
 have aV:((h.toNat:Nat):Int)=h:=J;cases ji with
 |none=>
  simp only [mO,dC] at U;subst U;simp only [nj,dC] at ay;cases aa with
  |none=>
   simp only [mO,dC] at ab;subst ab;simp only [nj,dC] at bf;subst ay bf;simp [Instr.sliceBounds]
  |some x=>
   obtain ⟨k,ar⟩:=aJ x rfl;subst ay;simp only [Instr.sliceBounds,ta,Option.map_none,Sem.run_bind,Sem.run_pure,Result.andThen_ok,IP (P:=P) ar ⟨J,al.2.2⟩];rfl
 |some y=>
  obtain ⟨fJ,a1⟩:=aH y rfl;cases aa with
  |none=>
   simp only [mO,dC] at ab;subst ab;simp only [nj,dC] at bf;subst bf;simp only [Instr.sliceBounds,ta,Option.map_none,Sem.run_bind,Sem.run_pure,Result.andThen_ok,IP (P:=P) a1 ⟨al.1,al.2.1⟩];simp
  |some x=>
   obtain ⟨k,ar⟩:=aJ x rfl;simp only [Instr.sliceBounds,ta,Sem.run_bind,Sem.run_pure,Result.andThen_ok,IP (P:=P) ar ⟨J,al.2.2⟩];simp only [IP (P:=P) (w:=w) a1 (y:=h.toNat) ⟨al.1,J⟩,Result.andThen_ok]
theorem Oi {x:Operand}{t e:TypeId}{ji aa:Option Operand}{mv aL:Option ak}{dY:Cells}{i n:Nat}{l h:Int}(bu:P.underlying t=some (.slice e))(av:(P.info? e).map (·.size)=some dY.aD)(ar:bG fr x=some (.ro dY i n))(U:mO fr ji=some mv)(ab:mO fr aa=some aL)(ay:nj 0 mv=some l)(bf:nj n aL=some h)(al:0≤l∧l≤h∧h≤n):
 b1 ind P fn c fr H ⟨d,.slice t x ji aa none,ty,pos,after,g⟩ (.ro dY (i+l.toNat) (h-l).toNat):=by
 intro w a σ S ad;have x7:=ad.dL ar;generalize bw:a.eval x=z at x7;have iW:h.toNat-l.toNat=(h-l).toNat:=J;cases x7 with
 |kq _ _ _ ia cap=>
  have aI:h=0:=J;have au:l=0:=J;subst aI au;refine ⟨.slice (if cap=0 then ia else ia.map (·.add 0)) 0 cap,.kq _ _ _ _ _,fun w' _=> ?_⟩;have n9:=Aq (P:=P) (w:=w') (Ae:=true) (cap:=cap) ad U ab ay bf ⟨J,J,J⟩;cases aB:P.info? e with
  |none=>simp [aB] at av
  |some inf=>
   simp [execOp,bw,Instr.sliceAt,Instr.slice,run_underlying bu,n9,sizeOf,typeInfo,aB]
 |ro _ _ _ _ b o cap val dq hlen aw ai gB=>
  have lZ: ∀w',(execOp a.eval ⟨d,.slice t x ji aa none,ty,pos,after,g⟩).run P w'= .ok (.value (.slice (if cap=l.toNat then some ⟨b,o,none⟩ else some ⟨b,o+l.toNat*dY.aD,none⟩) (h-l).toNat (cap-l.toNat))) w':=by
   intro w';have n9:=Aq (P:=P) (w:=w') (Ae:=true) (cap:=cap) ad U ab ay bf ⟨J,J,J⟩;cases aB:P.info? e with
   |none=>simp [aB] at av
   |some inf=>
    have cz:inf.size=dY.aD:=by simpa [aB] using av
    simp [execOp,bw,Instr.sliceAt,Instr.slice,run_underlying bu,n9,sizeOf,typeInfo,aB,iW,cz,Addr.add_lit]
  refine ⟨_,?_,fun w' _=>lZ w'⟩;by_cases aU:(h-l).toNat=0
  ·rw [aU];exact .kq _ _ _ _ _
  ·have cd: ¬cap=l.toNat:=J;rw [ax cd];refine .ro _ _ _ _ _ _ _ (fun d j=>val (l.toNat+d) j) dq J (fun d j hd ae=> ?_) (fun d j hd ae=> ?_) (fun d j hd ae=> ?_)
   ·have:=aw (l.toNat+d) j J ae;rw [dK,←ju] at this;exact this
   ·have:=ai (l.toNat+d) j J ae;rw [←ju] at this;exact this
   ·exact gB (l.toNat+d) j J ae
theorem Oj {x:Operand}{t e:TypeId}{ji aa:Option Operand}{mv aL:Option ak}{aS i n:Nat}{bg:bl}{l h:Int}(bu:P.underlying t=some (.slice e))(ar:bG fr x=some (.aC aS i n))(aV:H[aS]? =some (some bg))(av:(P.info? e).map (·.size)=some bg.c.aD)(U:mO fr ji=some mv)(ab:mO fr aa=some aL)(ay:nj 0 mv=some l)(bf:nj n aL=some h)(al:0≤l∧l<h∧h≤n):
 b1 ind P fn c fr H ⟨d,.slice t x ji aa none,ty,pos,after,g⟩ (.aC aS (i+l.toNat) (h-l).toNat):=by
 intro w a σ S ad;have x7:=ad.dL ar;generalize bw:a.eval x=z at x7;have iW:h.toNat-l.toNat=(h-l).toNat:=J;cases x7 with
 |ih=>omega
 |aC _ _ _ _ b s C cap bJ hlen jX=>
  obtain ⟨gY,cur,g1,g2,g3,g4,g5,g6⟩:=ad.obj aV bJ;subst gY;have cd: ¬cap=l.toNat:=J;refine ⟨.slice (some ⟨b,(i+l.toNat)*bg.c.aD,none⟩) (h-l).toNat (cap-l.toNat),.aC _ _ _ _ _ _ C _ bJ J J,fun w' _=> ?_⟩;have n9:=Aq (P:=P) (w:=w') (Ae:=true) (cap:=cap) ad U ab ay bf ⟨J,J,J⟩;cases aB:P.info? e with
  |none=>simp [aB] at av
  |some inf=>
   have cz:inf.size=bg.c.aD:=by simpa [aB] using av
   simp [execOp,bw,Instr.sliceAt,Instr.slice,run_underlying bu,n9,sizeOf,typeInfo,aB,iW,cz,Addr.add_lit,cd,dK]
end
end Go.aj
namespace Go.aj
variable [bA]
open Go.RowKit
section
variable {ind:Bool}{P:Program}{fn:Func}{c:Ctx}{fr:Fr}{H:aZ}{k:List eF}
theorem cc.dropLast {w:World}{a:Act}{σ:Nat→Option bQ}{S:Nat→Prop}{n:Nat}{x:Option bl}(ad:cc c w a σ S n fr (H++[x]))(kn: ¬c.fix H.length):
 cc c w a (fun h=>if h=H.length then none else σ h) S n (ou H.length fr) (c7 H.length H):=by
 have cd: ∀h,h≠H.length→(fun h=>if h=H.length then none else σ h) h=σ h:=fun h he=>by simp [he]
 have sy: ∀{x v},bz w S σ x v→bz w S (fun h=>if h=H.length then none else σ h) (x.forget H.length) v:=fun ai=>ai.forget _ cd;have lZ: ∀h o,(c7 H.length H)[h]? =some (some o)→ ∃dp,h<H.length∧(H++[x])[h]? =some (some dp)∧o=⟨dp.ty,dp.c.forget H.length⟩:=by
  intro h o ah;rw [I3] at ah;cases aB:H[h]? with
  |none=>simp [aB] at ah
  |some l6=>cases l6 with
   |none=>simp [aB,ja] at ah
   |some dp=>
    simp [aB,ja] at ah;have bD:h<H.length:=(hi.1 aB).1;exact ⟨dp,bD,by rw [hQ bD];exact aB,ah.symm⟩
 refine ⟨⟨?_,?_,ad.ad.small,fun h au=> ?_⟩,⟨ad.bj.os,ad.bj.output,ad.bj.tape,ad.bj.size,ad.bj.block,ad.bj.hX,ad.bj.e5,fun h aQ=> ?_,fun h aQ=> ?_,?_⟩,ad.defers,ad.size,fun t v au=> ?_⟩
 ·intro h o ah;obtain ⟨dp,bD,aU,rfl⟩:=lZ h o ah;rcases ad.ad.live h dp aU with ⟨aI,jA⟩|⟨b,C,cur,g1,g2,g3,g4,g5,g6,g7⟩
  ·exact .inl ⟨by rw [ax J];exact aI,by simpa [Cells.zA] using jA⟩
  ·right;simp only [Cells.zA,Cells.Hj];refine ⟨b,C,cur,by rw [ax J];exact g1,g2.forget I sy,g3,g4,g5,g6,fun i j aa ae=> ?_⟩;obtain ⟨v,aH,aJ,bR⟩:=g7 i j aa ae;exact ⟨v,aH,by rw [Cells.Hi _ dp.c i j ae];exact sy aJ,bR⟩
 ·intro U ab o1 o2 b s1 gI s2 gx bS bY aH aJ;obtain ⟨c6,fW,Lo,_⟩:=lZ U o1 bS;obtain ⟨fs,fK,acA,_⟩:=lZ ab o2 bY;rw [ax J] at aH aJ;exact ad.ad.hJ U ab _ _ b s1 gI s2 gx Lo acA aH aJ
 ·rw [va] at au;by_cases he:h=H.length
  ·simp [he]
  ·simp only [he,hH];exact ad.ad.ie h (by simp;omega)
 ·have ab: ¬h=H.length:=fun e=>kn (e▸aQ);rw [ax ab];exact ad.bj.fixed h aQ
 ·have U:=ad.bj.jx h aQ;have ab:h≠H.length:=fun e=>kn (e▸aQ);rw [va];simp at U;omega
 ·intro h o b s C ah al;obtain ⟨dp,bD,aU,rfl⟩:=lZ h o ah;rw [ax J] at al;exact ad.bj.own h dp b s C aU al
 ·rw [Fv] at au;cases aB:look t fr with
  |none=>simp [aB] at au
  |some v0=>
   simp [aB] at au;subst au;exact ⟨(ad.fl t v0 aB).1,sy (ad.fl t v0 aB).2⟩
theorem vn {x:Code}{H1:aZ}{y:Option bl}(k9:H=H1++[y])(kn: ¬c.fix H1.length)(h:aj P fn c (.code x k) (ou H1.length fr) (c7 H1.length H1)):aj P fn c (.code x k) fr H:=by subst k9;exact fun w a _ S ad=>h w a _ S (ad.dropLast kn)
end
end Go.aj
namespace Go.aj
theorem tX {α:Type}{l:List α}{k:Nat}(d:α)(h:k<l.length):l.getD k d=l[k]:=by simp [List.getD,h]
theorem iR {α:Type}{l:List α}{k:Nat}(d:α)(h:k<l.length):l.getD k d∈l:=by rw [tX d h];exact List.getElem_mem h
theorem pT {α:Type}(l:List α)(d:α)(k:Nat)(h:k<l.length):l.take (k+1)=l.take k++[l.getD k d]:=by rw [nZ h,tX d h]
theorem Cu {α:Type}(p:α→Bool)(l:List α)(d:α)(k:Nat)(h:k<l.length):(l.take (k+1)).any p=((l.take k).any p||p (l.getD k d)):=by rw [pT l d k h,List.any_append];simp only [List.any_cons,List.any_nil,Bool.or_false]
theorem tQ {α:Type}(l:List α)(d:α)(k:Nat)(h:k<l.length):l.drop k=l.getD k d::l.drop (k+1):=by rw [tX d h];exact GV h
variable [bA]
open Go.RowKit
section
variable {P:Program}{fn:Func}{c:Ctx}{fr:Fr}{H:aZ}{k:List eF}
variable {all:Array Oper}{d:Nat}{g:Operand}{args:List Operand}{iJ:Array TypeId}{ty:TypeId}{pos:String}{after:Array Edge}{rest:List Oper}{f:FuncId}
theorem aO {cw eh hh:List ak}{r:ak}(c2:bG fr g=some (.fn f cw))(a8:lD fr args=some eh)(has:eh++cw=hh)(lY:bs P f hh r)(an:aj P fn c (.ops false all rest k) ((d,r)::fr) H):aj P fn c (.ops false all (⟨some d,.call {callee:= .value g,args:=args.toArray,argTypes:=iJ},ty,pos,after,none⟩::rest) k) fr H:=
 De c2 a8 has (lY H) (fun _ h=>h) (fun _ h=>h) (fun dB bK h=>by obtain ⟨rfl,rfl⟩:=h;exact an)
theorem FV {cw eh hh zg:List ak}{r:ak}(c2:bG fr g=some (.fn f cw))(a8:lD fr args=some eh)(has:eh++cw=hh)(au:ak.qp H hh=zg)(lY:bs P f zg r)(fa: ∀(h:Nat) (o:bl),H[h]? =some (some o)→eZ o.c)(dV:mG H hh)(aI:cM.eM zg=true)(ad:cM r=true)(gP:flat r=true)(an:aj P fn c (.ops false all rest k) ((d,r)::fr) H):aj P fn c (.ops false all (⟨some d,.call {callee:= .value g,args:=args.toArray,argTypes:=iJ},ty,pos,after,none⟩::rest) k) fr H:=
 De c2 a8 has (bs.M3 lY fa au dV aI ad gP) (fun _ h=>h) (fun _ h=>h) (fun dB bK h=>by obtain ⟨rfl,rfl⟩:=h;exact an)
theorem me {cw eh hh:List ak}{r:Nat→ak}{o:bl}(c2:bG fr g=some (.fn f cw))(a8:lD fr args=some eh)(has:eh++cw=hh)(lY:ud P f hh r o)(an:aj P fn c (.ops false all rest k) ((d,r H.length)::fr) (H++[some o])):aj P fn c (.ops false all (⟨some d,.call {callee:= .value g,args:=args.toArray,argTypes:=iJ},ty,pos,after,none⟩::rest) k) fr H:=
 De c2 a8 has (lY H) (fun _ h=>h) (fun _ h=>h) (fun dB bK h=>by obtain ⟨rfl,rfl⟩:=h;exact an)
theorem rC {cw eh hh:List ak}{fix:Nat→Prop}{K:ak→aZ→Prop}(c2:bG fr g=some (.fn f cw))(a8:lD fr args=some eh)(has:eh++cw=hh)(lY:ch P f hh H fix K)(gO: ∀h,h<H.length→fix h)(gP: ∀h,fix h→h<H.length)(an: ∀r bK,K r bK→aj P fn c (.ops false all rest k) ((d,r)::fr) bK):aj P fn c (.ops false all (⟨some d,.call {callee:= .value g,args:=args.toArray,argTypes:=iJ},ty,pos,after,none⟩::rest) k) fr H:=
 De c2 a8 has lY gO gP an
end
theorem ma {k:IntKind}{l:List Int}:eZ (.ints k l):=Uw rfl
theorem NU {l:List (List UInt8)}:eZ (.strs l):=Uw rfl
theorem p8 {o1:bl}(U:eZ o1.c): ∀(h:Nat) (o:bl),([some o1]:aZ)[h]? =some (some o)→eZ o.c:=by
 have bZ:= ‹bA›;intro h o ah
 match h,ah with
 |0,ah=>simp at ah;subst ah;exact U
 |_+1,ah=>simp at ah
theorem TN {o1 o2:bl}(U:eZ o1.c)(ab:eZ o2.c): ∀(h:Nat) (o:bl),([some o1,some o2]:aZ)[h]? =some (some o)→eZ o.c:=by
 have bZ:= ‹bA›;intro h o ah
 match h,ah with
 |0,ah=>simp at ah;subst ah;exact U
 |1,ah=>simp at ah;subst ah;exact ab
 |_+2,ah=>simp at ah
end Go.aj
namespace Go.aj
variable [bA]
open Go.RowKit
def cu (a b:Cells):Prop:=b.len=a.len∧b.b8=a.b8∧ ∀i j,i<a.len→j<a.aD→b.at i j=a.at i j
def aM (H bK:aZ):Prop:=bK.length=H.length∧ ∀(h:Nat) (o':bl),bK[h]? =some (some o')→ ∃o:bl,H[h]? =some (some o)∧o'.ty=o.ty∧cu o.c o'.c
theorem cu.refl (a:Cells):cu a a:=have bZ:= ‹bA›;⟨rfl,rfl,fun _ _ _ _=>rfl⟩
theorem aM.refl (H:aZ):aM H H:=⟨rfl,fun _ o h=>⟨o,h,rfl,cu.refl _⟩⟩
theorem aM.nil:aM [] []:=aM.refl []
theorem aM.cons {x y:Option bl}{H bK:aZ}(ar: ∀o',y=some o'→ ∃o,x=some o∧o'.ty=o.ty∧cu o.c o'.c)(h:aM H bK):aM (x::H) (y::bK):=by
 have bZ:= ‹bA›;refine ⟨by simp [h.1],fun i o' ah=> ?_⟩;cases i with
 |zero=>
  simp only [List.getElem?_cons_zero,dC] at ah;obtain ⟨o,rfl,U,ab⟩:=ar o' ah;exact ⟨o,bX,U,ab⟩
 |succ i=>simpa using h.2 i o' (by simpa using ah)
theorem aM.same {x:Option bl}{H bK:aZ}(h:aM H bK):aM (x::H) (x::bK):=aM.cons (fun o ah=>⟨o,ah,rfl,cu.refl _⟩) h
theorem aM.eqv {t:TypeId}{a b:Cells}{H bK:aZ}(aw:cu a b)(h:aM H bK):aM (some ⟨t,a⟩::H) (some ⟨t,b⟩::bK):=
 aM.cons (fun o ah=>by cases ah;exact ⟨_,rfl,rfl,aw⟩) h
theorem aM.drop {x:Option bl}{H bK:aZ}(h:aM H bK):aM (x::H) (none::bK):=aM.cons (fun o ah=>by cases ah) h
theorem cc.heap {c:Ctx}{w:World}{a:Act}{σ:Nat→Option bQ}{S:Nat→Prop}{n:Nat}{fr:Fr}{H bK:aZ}(ad:cc c w a σ S n fr H)(av:aM H bK):cc c w a σ S n fr bK:=by
 refine ⟨⟨fun h o' ah=> ?_,fun h aS o o' b s C cy cL bS bY aH aJ=> ?_,ad.ad.small,fun h au=>ad.ad.ie h (by rw [←av.1];exact au)⟩,⟨ad.bj.os,ad.bj.output,ad.bj.tape,ad.bj.size,ad.bj.block,ad.bj.hX,ad.bj.e5,ad.bj.fixed,fun h aQ=>by rw [av.1];exact ad.bj.jx h aQ,fun h o b s C q e=> ?_⟩,ad.defers,ad.size,ad.fl⟩
 ·obtain ⟨o,U,ab,ay,bf,bL⟩:=av.2 h o' ah;rw [ay,A8 bf];rcases ad.ad.live h o U with g|⟨b,C,cur,g1,g2,g3,g4,g5,g6,g7⟩
  ·exact .inl g
  ·exact .inr ⟨b,C,cur,g1,g2.b8 ab bf,g3,g4,g5,g6,fun i j aa ae=>by rw [bL i j aa ae];exact g7 i j aa ae⟩
 ·obtain ⟨p,U,_⟩:=av.2 h o bS;obtain ⟨pQ,gB,_⟩:=av.2 aS o' bY;exact ad.ad.hJ h aS p pQ b s C cy cL U gB aH aJ
 ·obtain ⟨p,U,_⟩:=av.2 h o q;exact ad.bj.own h p b s C U e
section
variable {P:Program}{fn:Func}{c:Ctx}{fr:Fr}{H:aZ}{k:List eF}
theorem jG {x:Code}(bK:aZ)(av:aM H bK)(h:aj P fn c (.code x k) fr bK):aj P fn c (.code x k) fr H:=
 fun w a σ S ad=>h w a σ S (ad.heap av)
theorem fj {q:Bool}{all:Array Oper}{rest:List Oper}(bK:aZ)(av:aM H bK)(h:aj P fn c (.ops q all rest k) fr bK):aj P fn c (.ops q all rest k) fr H:=by
 cases q with
 |true=>exact fun hd w a σ S ad=>h hd w a σ S (ad.heap av)
 |false=>exact fun hd w a σ S ad=>h hd w a σ S (ad.heap av)
end
end Go.aj
namespace Go.aj
variable [bA]
open Go.ChangeShapes Go.WideShapes Go.ChangeAt Go.RowKit
section
variable {H:Type}{enc:TypeId×Value→H}{P:Program}{W W':World}
theorem alp (an: ∀b,b<W.heap.size→W'.heap[b]? =W.heap[b]?)(p:MemPlace)(aF:p.block<W.heap.size):W.sameAt W' p:=by
 have bZ:= ‹bA›;cases p with
 |cell b off=>
  show W'.cell? _=W.cell? _;exact World.cell?_of_block (an b aF)
 |map b=>exact an b aF
theorem UD {spare:Nat→Bool}{base:Nat}{held:Bool}: ∀{An:List TypeId} {vs:List Value} {sk:List (DataW H)} {iP:List MemPlace},DataW.TrodAll enc P W base spare held An vs sk iP→(∀p∈iP,W.sameAt W' p)→DataW.TrodAll enc P W' base spare held An vs sk iP
 |[],[],[],_,h,_=>have bZ:= ‹bA›;h
 |_::_,_::_,_::_,_,⟨p,q,⟨n,U⟩,ab,e⟩,av=>
  ⟨p,q,⟨n,DataW.trod_carry n _ _ _ U (fun x ar=>av x (by rw [e];exact tb _ ar))⟩,UD ab (fun x ar=>av x (by rw [e];exact List.mem_append_right _ ar)),e⟩
theorem alk (ah:W'.os=W.os)(aF:W'.output=W.output)(an: ∀b,b<W.heap.size→W'.heap[b]? =W.heap[b]?)(may:MemPlace→Prop):W.keptBut W' may:=by
 have bZ:= ‹bA›;refine ⟨ah,aF,fun i aa=> ?_⟩;rw [an i aa];split
 ·rename_i U ab;rw [U] at ab;cases ab;exact ⟨rfl,rfl,rfl,fun _ _=>rfl⟩
 ·rename_i U ab;rw [U] at ab;cases ab;exact .inr ⟨rfl,rfl⟩
 ·rfl
theorem apd {f:Func}{s:ChangeSpec}{t:TypeId}{apart fresh handsOn:Bool}{args:Array Value}{sk gs:List (DataW H)}{before:List MemPlace}(iM:DataW.Whole enc P f.params.toList s.vars apart W args.toList sk gs before)(ai:s.vars=[])(av:s.fn H sk={results:=[.lit (.bool true)],args:=sk,vars:=[]})(ad:f.resultTypes= #[t])(bu:P.underlying t=some .bool)(au:laidOutB P=true)(hm:mapsRowed P=true)(bw:((List.range P.types.size).all fun t=>match P.underlying t with|some (.slice e)=>decide (0<P.cellsOf e)|_=>true)=true)(MF:(f.params.toList.all (fun t=>decide (t<P.types.size)))=true)(ah:W'.os=W.os)(aF:W'.output=W.output)(an: ∀b,b<W.heap.size→W'.heap[b]? =W.heap[b]?):
 s.post enc P f apart fresh handsOn false W args (.bool true) W':=by
 have bD:=iM.lt;have LA:=iM;obtain ⟨p,q,hl,re,HU,_,_⟩:=iM;rw [ai] at re;have BR:gs=[]∧q=[]:=by
  cases gs with
  |nil=>exact ⟨rfl,re⟩
  |cons g r=>exact re.elim
 obtain ⟨rfl,rfl⟩:=BR;simp only [k2] at HU;subst HU;have mQ:=DataW.TrodAll.respare (spare':=fun b=>decide (b<W.heap.size)) (kids_rows au hm) (slices_full_of P bw) (fun t bu=>by simpa using qh.1 MF t bu) hl (fun x ar=>by simpa using bD x ar);have acD:=UD (W':=W') mQ (fun x ar=>alp an x (bD x ar));refine ⟨sk,[],before,[],before,[],LA,?_,?_,?_,alk ah aF an _,fun h=>nomatch h⟩
 ·rw [k2,av,ad];exact trodAll_cons_mk (shut_bool bu _) trodAll_mk0
 ·rw [k2,av];exact acD
 ·rw [k2,av,ai];exact rfl
theorem aoM {f:FuncId}{eh:List ak}{args:Array Value}(aw:bs P f eh (.bool true))(cz:args.size=eh.length)(ai: ∀i,i<eh.length→bz W (fun b=>b<W.heap.size) (fun _=>none) (eh.getD i .any) (args.getD i undef))(aF:p7 W (fun b=>b<W.heap.size) (fun _=>none) []):
 Calls P f args W (fun e W'=>e= .returned (.bool true)∧W'.os=W.os∧W'.output=W.output∧ ∀b,b<W.heap.size→W'.heap[b]? =W.heap[b]?):=by
 have ad:lT W (fun b=>b<W.heap.size) (fun _=>none) []:=⟨fun h o ah=>by simp at ah,fun h aS o o' b s C cy cL q=>by simp at q,fun b h=>h,fun _ _=>rfl⟩
 refine Calls.mono ((aw []).2 W (fun _=>none) (fun b=>b<W.heap.size) args aF ad (fun h aV=>aV) ⟨cz,ai⟩) fun e W' he=> ?_;obtain ⟨v,r,bC,ca,bK,rfl,g2,g3,g4,rfl,g6⟩:=he;have:v= .bool true:=by cases g3;rfl
 subst this;refine ⟨I,g4.os,g4.output,fun b al=>g4.block b al ?_⟩;rintro ⟨h,o,s,C,q,_⟩;simp at q
end
end Go.aj
namespace Go.aj
variable [bA]
open Go.RowKit
section
variable {ind:Bool}{P:Program}{fn:Func}{c:Ctx}{fr:Fr}{H:aZ}{k:List eF}
variable {d:Option Nat}{ty:TypeId}{pos:String}{after:Array Edge}{g:Option (Nat×Bool)}
theorem NG {op:BinOp}{t:TypeId}{x y:Operand}{a b:ByteArray}{w:World}:(eqGuard op t x y (.string a) (.string b)).run P w= .ok () w:=by have bZ:= ‹bA›;unfold eqGuard;split<;>rfl
theorem Vi (s:List UInt8):(⟨s.toArray⟩:ByteArray).toList=s:=have bZ:= ‹bA›;ByteArray.toList_mk s
theorem C8 {x y:Operand}{t cF:TypeId}{a b:List UInt8}(ar:bG fr x=some (.str a))(a1:bG fr y=some (.str b)):b1 ind P fn c fr H ⟨d,.binOp .eql t x y cF,ty,pos,after,g⟩ (.bool (decide (a=b))):=by
 intro w ac σ S ad;refine ⟨_,.bool _ _,fun w' _=> ?_⟩;have U:=ad.v8 ar;have ab:=ad.v8 a1;have e:(a==b)=decide (a=b):=by rw [xv];simp
 simp [execOp,U,ab,pr,NG,binOp,Op.stringOp,e]
theorem PK {x y:Operand}{t cF:TypeId}{a b:List UInt8}(ar:bG fr x=some (.str a))(a1:bG fr y=some (.str b)):b1 ind P fn c fr H ⟨d,.binOp .neq t x y cF,ty,pos,after,g⟩ (.bool (decide (¬a=b))):=by
 intro w ac σ S ad;refine ⟨_,.bool _ _,fun w' _=> ?_⟩;have U:=ad.v8 ar;have ab:=ad.v8 a1;have e:(a==b)=decide (a=b):=by rw [xv];simp
 simp [execOp,U,ab,pr,NG,binOp,Op.stringOp,e]
theorem AE {x y:Operand}{t cF:TypeId}{a b:List UInt8}(ar:bG fr x=some (.str a))(a1:bG fr y=some (.str b))(al:a.length+b.length≤9223372036854775807):b1 ind P fn c fr H ⟨d,.binOp .add t x y cF,ty,pos,after,g⟩ (.str (a++b)):=by
 intro w ac σ S ad;refine ⟨_,.str _ _,fun w' _=> ?_⟩;have U:=ad.v8 ar;have ab:=ad.v8 a1;have aH:(⟨a.toArray⟩:ByteArray).size=a.length:=Gm a;have aJ:(⟨b.toArray⟩:ByteArray).size=b.length:=Gm b;have bR:(⟨a.toArray⟩++⟨b.toArray⟩:ByteArray)=⟨(a++b).toArray⟩:=by apply WideShapes.bytes_inj;simp
 have jw: ¬((IntKind.i64.max)<((a.length+b.length:Nat):Int)):=by have:IntKind.i64.max=9223372036854775807:=aT;rw [this];omega
 have zz: ¬(IntKind.i64.max<(a.length:Int)+(b.length:Int)):=by simpa using jw
 simp [execOp,U,ab,pr,NG,binOp,Op.stringOp,aH,aJ,bR];omega
theorem XZ {x i:Operand}{t:TypeId}{s:List UInt8}{ey:IntKind}{m:Int}(bu:P.underlying t=some .string)(ar:bG fr x=some (.str s))(aa:bG fr i=some (.int ey m))(al:0≤m∧m<s.length):
 b1 ind P fn c fr H ⟨d,.index t x i,ty,pos,after,g⟩ (.int .u8 ((s.getD m.toNat 0).toNat:Nat)):=by
 intro w ac σ S ad;refine ⟨_,.int _ _ _,fun w' _=> ?_⟩;have U:=ad.v8 ar;have ab:=ad.ff aa;have bD:m.toNat<s.length:=J;have e:(⟨s.toArray⟩:ByteArray)[m.toNat]? =some (s.getD m.toNat 0):=by
  have cz:(⟨s.toArray⟩:ByteArray).size=s.length:=Gm s;have:m.toNat<(⟨s.toArray⟩:ByteArray).size:=by rw [cz];exact bD
  rw [getElem?_pos (⟨s.toArray⟩:ByteArray) m.toNat this];congr 1;show s.toArray[m.toNat]=_;simp [List.getD,bD]
 simp [execOp,U,ab,pr,Instr.index,asIntOf,run_underlying bu,al.1,e]
theorem alA {a:Act}{dM w:World}{σ:Nat→Option bQ}{S:Nat→Prop}{n:Nat}(ad:cc c dM a σ S n fr H){ji aa:Option Operand}{mv aL:Option ak}{len:Nat}{l h:Int}(U:mO fr ji=some mv)(ab:mO fr aa=some aL)(ay:nj 0 mv=some l)(bf:nj len aL=some h)(al:0≤l∧l≤h∧h≤len):
 (Instr.sliceBounds false len len (ji.map a.eval) (aa.map a.eval) none).run P w= .ok (l.toNat,h.toNat,len) w:=
 Aq ad U ab ay bf ⟨al.1,al.2.1,al.2.2⟩
theorem CH {x:Operand}{t:TypeId}{ji aa:Option Operand}{mv aL:Option ak}{s:List UInt8}{l h:Int}(bu:P.underlying t=some .string)(ar:bG fr x=some (.str s))(U:mO fr ji=some mv)(ab:mO fr aa=some aL)(ay:nj 0 mv=some l)(bf:nj s.length aL=some h)(al:0≤l∧l≤h∧h≤s.length):
 b1 ind P fn c fr H ⟨d,.slice t x ji aa none,ty,pos,after,g⟩ (.str ((s.drop l.toNat).take (h.toNat-l.toNat))):=by
 intro w ac σ S ad;refine ⟨_,.str _ _,fun w' _=> ?_⟩;have aH:=ad.v8 ar;have cz:(⟨s.toArray⟩:ByteArray).size=s.length:=Gm s;have aJ:=alA (P:=P) (w:=w') ad U ab ay bf al;have bR:(⟨s.toArray⟩:ByteArray).extract l.toNat h.toNat=⟨((s.drop l.toNat).take (h.toNat-l.toNat)).toArray⟩:=by apply WideShapes.bytes_inj;rw [Lib.extract_data]
 simp [execOp,Instr.sliceAt,run_underlying bu,aH,pr,Instr.slice,cz,aJ,bR]
theorem aiq {x y:Operand}{iJ:Array TypeId}{ee fg:IntKind}{m n:Int}(ar:bG fr x=some (.int ee m))(a1:bG fr y=some (.int fg n)):
 b1 ind P fn c fr H ⟨d,.call {callee:= .builtin .max,args:= #[x,y],argTypes:=iJ},ty,pos,after,g⟩ (.int ee (if n>m then n else m)):=by intro w ac σ S ad;refine ⟨_,.int _ _ _,fun w' _=> ?_⟩;simp [execOp,resolve,ad.ff ar,ad.ff a1,invoke,builtin,Builtin.max_,Builtin.max2]
theorem TJ {x y:Operand}{iJ:Array TypeId}{ee fg:IntKind}{m n:Int}(ar:bG fr x=some (.int ee m))(a1:bG fr y=some (.int fg n)):
 b1 ind P fn c fr H ⟨d,.call {callee:= .builtin .min,args:= #[x,y],argTypes:=iJ},ty,pos,after,g⟩ (.int ee (if n<m then n else m)):=by intro w ac σ S ad;refine ⟨_,.int _ _ _,fun w' _=> ?_⟩;simp [execOp,resolve,ad.ff ar,ad.ff a1,invoke,builtin,Builtin.min_,Builtin.min2]
theorem J5 {x:Operand}{t e:TypeId}(bu:P.underlying t=some (.slice e))(ar:bG fr x=some .nil):
 b1 ind P fn c fr H ⟨d,.call {callee:= .builtin .cap,args:= #[x],argTypes:= #[t]},ty,pos,after,g⟩ (.int .i64 0):=by intro w ac σ S ad;have U:=ad.dL ar;generalize bw:ac.eval x=z at U;cases U;refine ⟨_,.int _ _ _,fun w' _=> ?_⟩;simp [execOp,resolve,bw,invoke,builtin,Builtin.cap_,run_underlying bu,goInt]
theorem VE {x:Operand}{t e:TypeId}{ji aa:Option Operand}{mv aL:Option ak}{s:Nat}(bu:P.underlying t=some (.slice e))(av:(P.info? e).map (·.size)=some s)(ar:bG fr x=some .nil)(U:mO fr ji=some mv)(ab:mO fr aa=some aL)(ay:nj 0 mv=some 0)(bf:nj 0 aL=some 0):b1 ind P fn c fr H ⟨d,.slice t x ji aa none,ty,pos,after,g⟩ .nil:=by
 intro w ac σ S ad;have ai:=ad.dL ar;generalize bw:ac.eval x=z at ai;cases ai;refine ⟨_,.nil _,fun w' _=> ?_⟩;have aJ:=Aq (P:=P) (w:=w') (Ae:=true) (len:=0) (cap:=0) ad U ab ay bf ⟨J,J,J⟩;cases aB:P.info? e with
 |none=>simp [aB] at av
 |some inf=>simp [execOp,Instr.sliceAt,run_underlying bu,bw,Instr.slice,aJ,sizeOf,typeInfo,aB]
theorem J6 {f:FuncId}{cw:List Operand}{l:List ak}(au:lD fr cw=some l):
 b1 ind P fn c fr H ⟨d,.makeFunc (.func f) #[] cw.toArray,ty,pos,after,g⟩ (.fn f l):=by
 intro w ac σ S ad;obtain ⟨aH,aJ⟩:=F0 ad cw l au;refine ⟨.func (.func f) #[] (cw.map ac.eval).toArray,.fn _ _ _ _ (by simp [aH]) (fun i aa=> ?_),fun w' _=> ?_⟩
 ·have:=aJ i aa;have bD:i<cw.length:=J;have e:(cw.map ac.eval).toArray.getD i undef=(cw.map ac.eval).getD i undef:=by simp [List.getD,bD]
  rw [e];exact this
 ·simp [execOp,Instr.makeFunc]
theorem lo {x:Operand}{t:TypeId}{u:TypeDesc}{l:List ak}{i j:Nat}{v:ak}(bu:P.underlying t=some u)(hu:jn u=false)(ar:bG fr x=some (.cK (.box l) i j))(ai:l[j]? =some v):
 b1 false P fn c fr H ⟨d,.load t x,ty,pos,after,g⟩ v:=
 JE bu hu ar (q4 (hi.1 ai).1) (by simp [Cells.at,List.getD,ai])
theorem OD {w:World}{S:Nat→Prop}{σ:Nat→Option bQ}{cs:Array Value}{L:List ak}(h:qe w S σ cs L): ∀i j,i<(Cells.box L).len→j<(Cells.box L).aD→ ∃v,cs[i*(Cells.box L).aD+j]? =some v∧bz w S σ ((Cells.box L).at i j) v∧v.oneCell'=true:=by
 have bZ:= ‹bA›;intro i j aa ae;simp only [Cells.len,Cells.aD] at aa ae;have:i=0:=J;subst this;obtain ⟨U,ab⟩:=h.2 j ae;have bD:j<cs.size:=by rw [h.1];exact ae
 exact ⟨cs.getD j undef,by simp [bD],U,ab⟩
theorem vt {all:Array Oper}{d:Nat}{t:TypeId}{x:Operand}{ty:TypeId}{pos:String}{after:Array Edge}{rest:List Oper}{v:ak}{L:List ak}(ar:bG fr x=some v)(aw:v.vY=some L)(an:aj P fn c (.ops false all rest k) ((d,.ptr H.length 0 0)::fr) (H++[some ⟨t,.box L⟩])):aj P fn c (.ops false all (⟨some d,.box t x,ty,pos,after,none⟩::rest) k) fr H:=by
 refine rZ (fun w a σ S ad=> ?_) an;have U:=ad.dL ar;have a8:=V9 U aw;have dR:(execOp a.eval ⟨some d,.box t x,ty,pos,after,none⟩).run P w= .ok (.value (.pointer (some ⟨w.heap.size,0,none⟩))) (w.alloc (.cells (a.eval x).cells t (0,0))):=by simp [execOp,Instr.box,newVar,newRow]
 refine ⟨_,_,_,S,dR,ad.alloc (o:=⟨t,.box L⟩) (C:=1) (cur:=(a.eval x).cells) (bT _) (by unfold maxLen;omega) (by simp [Cells.aD,a8.1]) (OD a8),?_⟩;have:=bz.ptr (w:=w.alloc (.cells (a.eval x).cells t (0,0))) (S:=S) (cN σ H.length (.at w.heap.size (Cells.box L).aD 1)) H.length 0 0 w.heap.size (Cells.box L).aD 1 (by simp [cN]);simpa using this
theorem mc {all:Array Oper}{d:Nat}{t:TypeId}{ty:TypeId}{pos:String}{after:Array Edge}{rest:List Oper}{inf:TypeInfo}{z:Value}{zs:List ak}(aa:P.info? t=some inf)(bw:inf.zero=some z)(j1:sY z=some zs)(an:aj P fn c (.ops false all rest k) ((d,.ptr H.length 0 0)::fr) (H++[some ⟨t,.box zs⟩])):aj P fn c (.ops false all (⟨some d,.alloc t,ty,pos,after,none⟩::rest) k) fr H:=by
 refine rZ (fun w a σ S ad=> ?_) an;have a8:qe w S σ z.cells zs:=AL j1;have dR:(execOp a.eval ⟨some d,.alloc t,ty,pos,after,none⟩).run P w= .ok (.value (.pointer (some ⟨w.heap.size,0,none⟩))) (w.alloc (.cells z.cells t (0,0))):=by simp [execOp,Instr.alloc,newVar,newRow,zeroValue,typeInfo,aa,bw]
 refine ⟨_,_,_,S,dR,ad.alloc (o:=⟨t,.box zs⟩) (C:=1) (cur:=z.cells) (bT _) (by unfold maxLen;omega) (by simp [Cells.aD,a8.1]) (OD a8),?_⟩;have:=bz.ptr (w:=w.alloc (.cells z.cells t (0,0))) (S:=S) (cN σ H.length (.at w.heap.size (Cells.box zs).aD 1)) H.length 0 0 w.heap.size (Cells.box zs).aD 1 (by simp [cN]);simpa using this
theorem Z1 {all:Array Oper}{d:Nat}{t wO e:TypeId}{x y:Operand}{ty:TypeId}{pos:String}{after:Array Edge}{rest:List Oper}{inf:TypeInfo}{z:Value}{zs:List ak}{n:Int}{ee uS:IntKind}(bu:P.underlying t=some (.slice e))(B9:P.underlying wO=some (.int uS))(aa:P.info? e=some inf)(bw:inf.zero=some z)(cz:inf.size=zs.length)(j1:sY z=some zs)(e1:Nat.blt 0 zs.length=true)(ar:bG fr x=some .nil)(a1:bG fr y=some (.int ee n))(al:0<n∧(n:Int)*inf.bytes≤140737488355328∧n≤9223372036854775807)(an:aj P fn c (.ops false all rest k) ((d,.aC H.length 0 n.toNat)::fr) (H++[some ⟨e,jE n.toNat zs⟩])):aj P fn c (.ops false all (⟨some d,.call {callee:= .builtin .append,args:= #[x,y],argTypes:= #[t,wO]},ty,pos,after,none⟩::rest) k) fr H:=by
 refine rZ (fun w a σ S ad=> ?_) an;obtain ⟨ku,z2,z3⟩:=NF n.toNat zs;obtain ⟨gu,h7⟩:=AL (w:=w) (S:=S) (σ:=σ) j1;have B2:0<zs.length:=iv e1;have U:=ad.dL ar;have ab:=ad.ff a1;generalize wG:a.eval x=Fh at U;cases U;obtain ⟨m,rfl⟩: ∃m:Nat,n=m:=⟨n.toNat,J⟩
 simp only [cg] at*;have tu:m*inf.bytes≤140737488355328:=by have:=al.2.1;rw [←Int.natCast_mul] at this;omega
 have dR:=Lib.run_append_nil_zeros (P:=P) w t wO ty e inf z ee uS bu B9 aa bw m J J J J;have iN:(execOp a.eval ⟨some d,.call {callee:= .builtin .append,args:= #[x,y],argTypes:= #[t,wO]},ty,pos,after,none⟩).run P w= .ok (.value (.slice (some ⟨w.heap.size,0,none⟩) m (grownCap w m 0 e))) (w.drew.alloc (.cells (Builtin.zeroCells z.cells m++Builtin.zeroCells z.cells (grownCap w m 0 e-m)) e)):=by simp [execOp,resolve,wG,ab,invoke,builtin,dR]
 have lb:=grownCap_ge w m 0 e;have hle:=grownCap_le_maxLen w m 0 e (by unfold maxLen;omega);generalize grownCap w m 0 e=G at iN lb hle;have hd:cc c w.drew a σ S fn.ntmps fr H:=ad.drewN (m:=1);refine ⟨_,_,_,S,iN,hd.alloc (o:=⟨e,jE m zs⟩) (C:=G) (cur:=Builtin.zeroCells z.cells m++Builtin.zeroCells z.cells (G-m)) (by rw [ku];exact lb) hle (by
  simp only [Array.size_append,size_zeroCells,z2,gu,←dK];congr 1;omega) (fun i j aa ae=> ?_),?_⟩
 ·simp only [ku] at aa;simp only [z2] at ae⊢;rw [z3 i j aa ae];have bD:i*zs.length+j<m*zs.length:=by have:(i+1)*zs.length≤m*zs.length:=er _ J;rw [dK] at this;omega
  have hm:(i*zs.length+j)%zs.length=j:=by rw [hj,Bi];exact np ae
  refine ⟨z.cells.getD j undef,?_,?_,(h7 j ae).2⟩
  ·rw [Bj (by simp [size_zeroCells,gu];exact bD)];have aeI:i*zs.length+j<m*z.cells.size:=by rw [gu];exact bD
   have aeu:j<z.cells.size:=by rw [gu];exact ae
   simp [Builtin.zeroCells,gu,hm,Array.getD,bD,ae]
  ·exact bz.mono (w:=w) (w':=w.drew) (S:=S) (ca:=S) (σ:=σ) (fun _ h=>h) (fun _ _=>rfl) (h7 j ae).1 _ (fun _ _ h=>h)
 ·have:=bz.aC (w:=w.drew.alloc (.cells (Builtin.zeroCells z.cells m++Builtin.zeroCells z.cells (G-m)) e)) (S:=S) (cN σ H.length (.at w.heap.size (jE m zs).aD G)) H.length 0 m w.heap.size (jE m zs).aD G G (by simp [cN]) J J;simpa using this
end
def KG (a b:Cells):Prop:=b.len≤a.len∧b.b8=a.b8∧ ∀i j,i<b.len→j<a.aD→b.at i j=a.at i j
theorem cc.Nt {c:Ctx}{w:World}{a:Act}{σ:Nat→Option bQ}{S:Nat→Prop}{n:Nat}{fr:Fr}{H:aZ}(ad:cc c w a σ S n fr H){h:Nat}{o:bl}(aV:H[h]? =some (some o)){c':Cells}(bu:KG o.c c'):cc c w a σ S n fr (H.set h (some ⟨o.ty,c'⟩)):=by
 obtain ⟨t1,t2,t3⟩:=bu;have bD:h<H.length:=(hi.1 aV).1;have c9: ∀(aS:Nat) (o':bl),(H.set h (some ⟨o.ty,c'⟩))[aS]? =some (some o')→ ∃dp:bl,H[aS]? =some (some dp)∧o'.ty=dp.ty∧KG dp.c o'.c:=by
  intro aS o' ah;by_cases he:aS=h
  ·subst he;simp only [oH bD,dC] at ah;subst ah;exact ⟨o,aV,I,t1,t2,t3⟩
  ·rw [lV (q3 he)] at ah;exact ⟨o',ah,I,bT _,I,fun _ _ _ _=>rfl⟩
 refine ⟨⟨fun aS o' ah=> ?_,fun U ab o1 o2 b s C cy cL bS bY aH aJ=> ?_,ad.ad.small,fun aS au=>ad.ad.ie aS (by simpa using au)⟩,⟨ad.bj.os,ad.bj.output,ad.bj.tape,ad.bj.size,ad.bj.block,ad.bj.hX,ad.bj.e5,ad.bj.fixed,fun aS aQ=>by simpa using ad.bj.jx aS aQ,fun aS o' b s C q e=> ?_⟩,ad.defers,ad.size,ad.fl⟩
 ·obtain ⟨dp,U,ab,ay,bf,bL⟩:=c9 aS o' ah;rw [A8 bf];rcases ad.ad.live aS dp U with g|⟨b,C,cur,g1,g2,g3,g4,g5,g6,g7⟩
  ·exact .inl ⟨g.1,by have:=g.2;omega⟩
  ·exact .inr ⟨b,C,cur,g1,g2.b8 ab bf,g3,g4,J,g6,fun i j aa ae=>by rw [bL i j aa ae];exact g7 i j J ae⟩
 ·obtain ⟨p,c6,_⟩:=c9 U o1 bS;obtain ⟨pQ,Ai,_⟩:=c9 ab o2 bY;exact ad.ad.hJ U ab p pQ b s C cy cL c6 Ai aH aJ
 ·obtain ⟨p,c6,_⟩:=c9 aS o' q;exact ad.bj.own aS p b s C c6 e
section
variable {P:Program}{fn:Func}{c:Ctx}{fr:Fr}{H:aZ}{k:List eF}
theorem JS {x:Code}(h:Nat){o:bl}(c':Cells)(aV:H[h]? =some (some o))(bu:KG o.c c')(an:aj P fn c (.code x k) fr (H.set h (some ⟨o.ty,c'⟩))):aj P fn c (.code x k) fr H:=
 fun w a σ S ad=>an w a σ S (ad.Nt aV bu)
theorem UI {q:Bool}{all:Array Oper}{rest:List Oper}(h:Nat){o:bl}(c':Cells)(aV:H[h]? =some (some o))(bu:KG o.c c')(an:aj P fn c (.ops q all rest k) fr (H.set h (some ⟨o.ty,c'⟩))):aj P fn c (.ops q all rest k) fr H:=by
 cases q with
 |true=>exact fun hd w a σ S ad=>an hd w a σ S (ad.Nt aV bu)
 |false=>exact fun hd w a σ S ad=>an hd w a σ S (ad.Nt aV bu)
end
def aR (x y:ak):Prop:= ∀(w:World) (S:Nat→Prop) (σ:Nat→Option bQ) (v:Value),bz w S σ x v→bz w S σ y v
theorem aR.ro {c c':Cells}{i aG n:Nat}(av:c'.aD=c.aD)(h: ∀d j,d<n→j<c.aD→c'.at (aG+d) j=c.at (i+d) j):aR (.ro c i n) (.ro c' aG n):=by
 have bZ:= ‹bA›;intro w S σ v ai;cases ai with
 |kq=>exact .kq _ _ _ _ _
 |ro _ _ _ _ b o cap val dq hlen aw ai U=>
  refine .ro _ _ _ _ b o cap val dq hlen (fun d j hd ae=> ?_) (fun d j hd ae=> ?_) (fun d j hd ae=>U d j hd (by rwa [av] at ae))
  ·rw [av] at ae⊢;exact aw d j hd ae
  ·rw [av] at ae;rw [h d j hd ae];exact ai d j hd ae
theorem aR.of_eq {x y:ak}(h:x=y):aR x y:=have bZ:= ‹bA›;fun _ _ _ _ ai=>h▸ai
theorem aR.uW {x:ak}:aR x x:=have bZ:= ‹bA›;fun _ _ _ _ ai=>ai
theorem aR.trans {x y z:ak}(h:aR x y)(aS:aR y z):aR x z:=have bZ:= ‹bA›;fun _ _ _ _ ai=>aS _ _ _ _ (h _ _ _ _ ai)
theorem aR.Iy {c c':Cells}{i aG n:Nat}(av:c'.aD=c.aD)(h: ∀d j,d<n→j<c.aD→aR (c.at (i+d) j) (c'.at (aG+d) j)):aR (.ro c i n) (.ro c' aG n):=by
 have bZ:= ‹bA›;intro w S σ v ai;cases ai with
 |kq=>exact .kq _ _ _ _ _
 |ro _ _ _ _ b o cap val dq hlen aw ai U=>
  refine .ro _ _ _ _ b o cap val dq hlen (fun d j hd ae=> ?_) (fun d j hd ae=> ?_) (fun d j hd ae=>U d j hd (by rwa [av] at ae))
  ·rw [av] at ae⊢;exact aw d j hd ae
  ·rw [av] at ae;exact h d j hd ae _ _ _ _ (ai d j hd ae)
theorem aR.take {k:IntKind}{l:List Int}{n:Nat}:aR (.ro (.ints k l) 0 n) (.ro (.ints k (l.take n)) 0 n):=
 aR.ro rfl (fun d j hd _=>by simp only [Cells.at,cT,List.getD,py,hd,gf])
theorem aR.drop {k:IntKind}{l:List Int}{i n:Nat}:aR (.ro (.ints k l) i n) (.ro (.ints k (l.drop i)) 0 n):=
 aR.ro rfl (fun d j hd _=>by simp only [Cells.at,cT,List.getD,Bk])
theorem aR.nil {c:Cells}{i:Nat}:aR .nil (.ro c i 0):=by have bZ:= ‹bA›;intro w S σ v ai;cases ai;exact .kq _ _ _ _ _
theorem cc.slot {c:Ctx}{w:World}{a:Act}{σ:Nat→Option bQ}{S:Nat→Prop}{n t:Nat}{fr:Fr}{H:aZ}{x y:ak}(ad:cc c w a σ S n fr H)(au:look t fr=some x)(h:aR x y):cc c w a σ S n ((t,y)::fr) H:=by
 refine ⟨ad.ad,ad.bj,ad.defers,ad.size,fun u v hu=> ?_⟩;simp only [look] at hu;by_cases he:u=t
 ·subst he;simp only [pD,lU,dC] at hu;subst hu;exact ⟨(ad.fl u x au).1,h _ _ _ _ (ad.fl u x au).2⟩
 ·simp only [dv he,oF] at hu;exact ad.fl u v hu
section
variable {P:Program}{fn:Func}{c:Ctx}{fr:Fr}{H:aZ}{k:List eF}
theorem ds {x:Code}(t:Nat){v:ak}(y:ak)(au:look t fr=some v)(h:aR v y)(an:aj P fn c (.code x k) ((t,y)::fr) H):aj P fn c (.code x k) fr H:=
 fun w a σ S ad=>an w a σ S (ad.slot au h)
theorem bP {q:Bool}{all:Array Oper}{rest:List Oper}(t:Nat){v:ak}(y:ak)(au:look t fr=some v)(h:aR v y)(an:aj P fn c (.ops q all rest k) ((t,y)::fr) H):aj P fn c (.ops q all rest k) fr H:=by
 cases q with
 |true=>exact fun hd w a σ S ad=>an hd w a σ S (ad.slot au h)
 |false=>exact fun hd w a σ S ad=>an hd w a σ S (ad.slot au h)
end
theorem bs.Ip {P:Program}{f:FuncId}{args:List ak}{r:ak}(aQ: ∃fn,P.funcs[f]? =some fn∧(fn.name== "runtime.NumGoroutine")=false∧fn.body.isNone=false)(aI:cM.eM args=true)(ad:cM r=true)(h: ∀(w:World) (S:Nat→Prop) (dD:Array Value),bA.G w S→(∀b,S b→b<w.heap.size)→pv w S (fun _=>none) args dD→
  Calls P f dD w (fun e w'=> ∃v,e= .returned v∧Below w.heap.size w w'∧bz w' (fun b=>S b∨(w.heap.size≤b∧b<w'.heap.size)) (fun _=>none) r v)):bs P f args r:=by
 intro H;refine ⟨aQ,fun w σ S dD aF jh kn ai=> ?_⟩;refine (h w S dD aF.now jh.small (ai.closed aI _)).mono ?_;rintro e w' ⟨v,rfl,al,afK⟩;have hold: ∀b,b<w.heap.size→w'.heap[b]? =w.heap[b]? :=fun b eA=>al.block b eA;have kO: ∀{mI:Nat→Option bQ} {x v},bz w S mI x v→bz w' (fun b=>S b∨(w.heap.size≤b∧b<w'.heap.size)) mI x v:=fun h=>h.mono (fun _ h=> .inl h) (fun b av=>hold b (jh.small b av)) _ (fun _ _ h=>h);refine ⟨v,r,σ,fun b=>S b∨(w.heap.size≤b∧b<w'.heap.size),H,I,⟨fun h o ah=> ?_,jh.hJ,fun b av=> ?_,jh.ie⟩,afK.closed ad σ,⟨al.os,al.output,al.tape,al.size,fun b eA _=>hold b eA,fun b av=> .inl av,fun b av=> ?_,fun _ _=>rfl,fun _ au=>au,fun h o b s C U ab=> .inl ⟨h,o,s,C,U,ab⟩⟩,I,I⟩
 ·rcases jh.live h o ah with g|⟨b,C,cur,g1,g2,g3,g4,g5,g6,g7⟩
  ·exact .inl g
  ·have bD:=g2.lt;refine .inr ⟨b,C,cur,g1,g2.mono (hold b bD) kO,g3,g4,g5,?_,fun i j aa ae=> ?_⟩
   ·rintro (av|av)
    ·exact g6 av
    ·omega
   ·obtain ⟨v,aH,aJ,bR⟩:=g7 i j aa ae;exact ⟨v,aH,kO aJ,bR⟩
 ·rcases av with av|av
  ·exact gL (jh.small b av) al.size
  ·exact av.2
 ·rcases av with av|av
  ·exact .inl av
  ·exact .inr (.inr av.1)
end Go.aj
namespace Go.aj
variable [bA]
open Go.RowKit
section
variable {ind:Bool}{P:Program}{fn:Func}{c:Ctx}{fr:Fr}{H:aZ}{k:List eF}
variable {d:Option Nat}{ty:TypeId}{pos:String}{after:Array Edge}{g:Option (Nat×Bool)}
theorem Cw {x:Operand}{t e:TypeId}{ji aa:Option Operand}{mv aL:Option ak}{aS i n:Nat}{bg:bl}{l h:Int}(bu:P.underlying t=some (.slice e))(ar:bG fr x=some (.aC aS i n))(aV:H[aS]? =some (some bg))(av:(P.info? e).map (·.size)=some bg.c.aD)(U:mO fr ji=some mv)(ab:mO fr aa=some aL)(ay:nj 0 mv=some l)(bf:nj n aL=some h)(al:l=0∧0≤h∧h≤n):
 b1 ind P fn c fr H ⟨d,.slice t x ji aa none,ty,pos,after,g⟩ (.aC aS i h.toNat):=by
 intro w a σ S ad;have x7:=ad.dL ar;generalize bw:a.eval x=z at x7;obtain ⟨rfl,so,BI⟩:=al;cases x7 with
 |ih _ _ bJ=>
  have aU:h=0:=J;subst aU;refine ⟨.slice none 0 0,.ih _ _ bJ,fun w' _=> ?_⟩;have n9:=Aq (P:=P) (w:=w') (Ae:=true) (len:=0) (cap:=0) ad U ab ay bf ⟨J,J,J⟩;cases aB:P.info? e with
  |none=>simp [aB] at av
  |some inf=>simp [execOp,bw,Instr.sliceAt,Instr.slice,run_underlying bu,n9,sizeOf,typeInfo,aB]
 |aC _ _ _ _ b s C cap bJ hlen jX=>
  obtain ⟨gY,cur,g1,g2,g3,g4,g5,g6⟩:=ad.obj aV bJ;subst gY;refine ⟨.slice (some ⟨b,i*bg.c.aD,none⟩) h.toNat cap,.aC _ _ _ _ _ _ C _ bJ J J,fun w' _=> ?_⟩;have n9:=Aq (P:=P) (w:=w') (Ae:=true) (cap:=cap) ad U ab ay bf ⟨J,J,J⟩;cases aB:P.info? e with
  |none=>simp [aB] at av
  |some inf=>simp [execOp,bw,Instr.sliceAt,Instr.slice,run_underlying bu,n9,sizeOf,typeInfo,aB,Addr.add_lit]
end
end Go.aj
