/- Proved here: the abstract evaluator, its relation to the machine, and that its pure operations and its memory are sound. Conditions: each theorem's own. -/
import Derived.Below
import Derived.KernelRfl
import Derived.Orders
import Derived.WalkKit
import Derived.Lib.Strings
import Derived.Lib.UnsafeStr
import Derived.Lib.IfaceEq
import Derived.Lib.IfaceNeq
set_option linter.unusedSimpArgs false
namespace Go.Ab
theorem Kd:type_of% @And.intro:=@And.intro
theorem Ke:type_of% @if_neg:=@if_neg
theorem Kg:type_of% @if_pos:=@if_pos
theorem Kh:type_of% @List.getElem?_set_ne:=@List.getElem?_set_ne
theorem Ki:type_of% @Option.some.injEq:=@Option.some.injEq
theorem Kj:type_of% @List.getElem?_append_left:=@List.getElem?_append_left
theorem Kk:type_of% @List.length_append:=@List.length_append
theorem Kl:type_of% @if_true:=@if_true
theorem Km:type_of% @List.getElem?_set_self:=@List.getElem?_set_self
theorem Kn:type_of% @if_false:=@if_false
theorem Ko:type_of% @Option.bind_eq_some_iff:=@Option.bind_eq_some_iff
theorem Kq:type_of% @Option.bind_some:=@Option.bind_some
theorem Kr:type_of% @Option.getD_some:=@Option.getD_some
theorem Ks:type_of% @List.all_cons:=@List.all_cons
theorem Ku:type_of% @Bool.false_eq_true:=@Bool.false_eq_true
theorem Kv:type_of% @Option.map_eq_some_iff:=@Option.map_eq_some_iff
theorem Kw:type_of% @Nat.le_refl:=@Nat.le_refl
theorem Kz:type_of% @List.getElem?_eq_getElem:=@List.getElem?_eq_getElem
theorem K4:type_of% @List.getElem?_eq_some_iff:=@List.getElem?_eq_some_iff
theorem K5:type_of% @List.drop_succ_cons:=@List.drop_succ_cons
theorem K6:type_of% @List.map_cons:=@List.map_cons
theorem K7:type_of% @List.append_assoc:=@List.append_assoc
theorem K8:type_of% @Bool.and_self:=@Bool.and_self
theorem K9:type_of% @Option.map_some:=@Option.map_some
theorem Qg:type_of% @Prod.mk.injEq:=@Prod.mk.injEq
theorem Qh:type_of% @List.length_cons:=@List.length_cons
theorem Qi:type_of% @Array.getElem?_eq_some_iff:=@Array.getElem?_eq_some_iff
theorem Qj:type_of% @Int.toNat_natCast:=@Int.toNat_natCast
theorem Qk:type_of% @List.drop_eq_getElem_cons:=@List.drop_eq_getElem_cons
theorem Ql:type_of% @Nat.lt_or_ge:=@Nat.lt_or_ge
theorem Qm:type_of% @Nat.zero_le:=@Nat.zero_le
theorem Qn:type_of% @List.all_nil:=@List.all_nil
theorem Qo:type_of% @List.getElem?_eq_none:=@List.getElem?_eq_none
theorem Qq:type_of% @List.all_eq_true:=@List.all_eq_true
theorem Qr:type_of% @List.length_nil:=@List.length_nil
theorem Qt:type_of% @Bool.and_eq_true:=@Bool.and_eq_true
theorem Qu:type_of% @List.take_of_length_le:=@List.take_of_length_le
theorem Qw:type_of% @List.length_map:=@List.length_map
theorem Qx:type_of% @List.length_take:=@List.length_take
theorem Qz:type_of% @List.drop_zero:=@List.drop_zero
theorem Q5:type_of% @Bool.and_true:=@Bool.and_true
theorem Q6:type_of% @List.eq_nil_of_length_eq_zero:=@List.eq_nil_of_length_eq_zero
theorem Q7:type_of% @List.getElem?_cons_succ:=@List.getElem?_cons_succ
theorem Q8:type_of% @Bool.not_true:=@Bool.not_true
theorem Q9:type_of% @List.getElem?_cons_zero:=@List.getElem?_cons_zero
theorem Ja:type_of% @List.nil_append:=@List.nil_append
theorem Jb:type_of% @List.append_nil:=@List.append_nil
theorem Jc:type_of% @Nat.mul_le_mul_right:=@Nat.mul_le_mul_right
theorem Jd:type_of% @List.mem_map:=@List.mem_map
theorem Je:type_of% @not_false_eq_true:=@not_false_eq_true
theorem Jg:type_of% @List.mem_cons:=@List.mem_cons
theorem Jh:type_of% @List.take_length:=@List.take_length
theorem Ji:type_of% @Bool.not_false:=@Bool.not_false
theorem Jj:type_of% @List.take_zero:=@List.take_zero
theorem Jk:type_of% @Nat.zero_add:=@Nat.zero_add
theorem Jl:type_of% @List.mem_append:=@List.mem_append
theorem Jm:type_of% @Array.length_toList:=@Array.length_toList
theorem Jn:type_of% @List.cons_append:=@List.cons_append
theorem Jo:type_of% @Classical.byContradiction:=@Classical.byContradiction
theorem Jp:type_of% @Nat.le_trans:=@Nat.le_trans
theorem Jq:type_of% @decide_eq_true_eq:=@decide_eq_true_eq
theorem Jr:type_of% @List.getElem_of_mem:=@List.getElem_of_mem
theorem Js:type_of% @List.map_append:=@List.map_append
theorem Jt:type_of% @Int.le_refl:=@Int.le_refl
theorem Ju:type_of% @List.length_singleton:=@List.length_singleton
theorem Jv:type_of% @List.getElem?_append_right:=@List.getElem?_append_right
theorem Jw:type_of% @List.getElem?_take:=@List.getElem?_take
theorem Jx:type_of% @List.take_succ_cons:=@List.take_succ_cons
theorem Jy:type_of% @List.length_drop:=@List.length_drop
theorem Jz:type_of% @Nat.add_mul:=@Nat.add_mul
theorem J4:type_of% @List.mem_singleton:=@List.mem_singleton
theorem J5:type_of% @List.map_nil:=@List.map_nil
theorem J6:type_of% @Array.getElem?_eq_getElem:=@Array.getElem?_eq_getElem
theorem J7:type_of% @List.getElem_mem:=@List.getElem_mem
theorem J8:type_of% @List.getElem?_set:=@List.getElem?_set
theorem J9:type_of% @List.getElem?_map:=@List.getElem?_map
theorem Xa:type_of% @List.drop_nil:=@List.drop_nil
theorem Xb:type_of% @List.getElem_cons_succ:=@List.getElem_cons_succ
theorem Xc:type_of% @Nat.mul_one:=@Nat.mul_one
theorem Xd:type_of% @List.set_cons_zero:=@List.set_cons_zero
theorem Xe:type_of% @Bool.or_eq_true:=@Bool.or_eq_true
theorem Xg:type_of% @List.take_append_drop:=@List.take_append_drop
theorem Xh:type_of% @Bool.true_and:=@Bool.true_and
theorem Xi:type_of% @List.filter_cons_of_pos:=@List.filter_cons_of_pos
theorem Xj:type_of% @Bool.or_true:=@Bool.or_true
theorem Xk:type_of% @Int.natCast_one:=@Int.natCast_one
theorem Xl:type_of% @Array.getElem?_toList:=@Array.getElem?_toList
theorem Xm:type_of% @List.getElem?_toArray:=@List.getElem?_toArray
theorem Xn:type_of% @Nat.sub_self:=@Nat.sub_self
theorem Xo:type_of% @List.set_set:=@List.set_set
theorem Xp:type_of% @List.ext_getElem?:=@List.ext_getElem?
theorem Xq:type_of% @Bool.false_or:=@Bool.false_or
theorem Xr:type_of% @Bool.or_false:=@Bool.or_false
theorem Xs:type_of% @List.mem_range:=@List.mem_range
theorem Xt:type_of% @Nat.min_eq_left:=@Nat.min_eq_left
theorem Xu:type_of% @List.getElem_toArray:=@List.getElem_toArray
theorem Xv:type_of% @List.mem_iff_getElem:=@List.mem_iff_getElem
theorem Xw:type_of% @List.mem_of_mem_take:=@List.mem_of_mem_take
theorem Xx:type_of% @List.mapM_cons:=@List.mapM_cons
theorem Xy:type_of% @List.length_pos_iff:=@List.length_pos_iff
theorem Xz:type_of% @List.map_congr_left:=@List.map_congr_left
theorem X4:type_of% @List.foldl_cons:=@List.foldl_cons
theorem X5:type_of% @List.map_map:=@List.map_map
theorem X6:type_of% @List.filter_cons_of_neg:=@List.filter_cons_of_neg
theorem X7:type_of% @List.getD_cons_succ:=@List.getD_cons_succ
theorem X8:type_of% @List.getElem_cons_zero:=@List.getElem_cons_zero
theorem X9:type_of% @List.getElem?_drop:=@List.getElem?_drop
theorem Vb:type_of% @List.count_cons_of_ne:=@List.count_cons_of_ne
theorem Vc:type_of% @Nat.le_of_eq:=@Nat.le_of_eq
theorem Vd:type_of% @List.forIn_cons:=@List.forIn_cons
theorem Ve:type_of% @List.cons.injEq:=@List.cons.injEq
theorem Vg:type_of% @List.mem_filter:=@List.mem_filter
theorem Vh:type_of% @Int.natCast_add:=@Int.natCast_add
theorem Vi:type_of% @Int.mul_le_mul_of_nonneg_right:=@Int.mul_le_mul_of_nonneg_right
theorem Vj:type_of% @List.flatten_cons:=@List.flatten_cons
theorem Vk:type_of% @Nat.add_assoc:=@Nat.add_assoc
theorem Vl:type_of% @List.countP_cons_of_neg:=@List.countP_cons_of_neg
theorem Vm:type_of% @List.getElem_append:=@List.getElem_append
theorem Vn:type_of% @List.replicate_succ:=@List.replicate_succ
theorem Vo:type_of% @Nat.add_zero:=@Nat.add_zero
theorem Vp:type_of% @Nat.lt_of_lt_of_le:=@Nat.lt_of_lt_of_le
theorem Vr:type_of% @List.zip_cons_cons:=@List.zip_cons_cons
theorem Vs:type_of% @List.singleton_append:=@List.singleton_append
theorem Vt:type_of% @Array.getElem?_eq_none_iff:=@Array.getElem?_eq_none_iff
theorem Vu:type_of% @Int.add_mul_emod_self_left:=@Int.add_mul_emod_self_left
theorem Vv:type_of% @Nat.lt_trichotomy:=@Nat.lt_trichotomy
theorem Vw:type_of% @List.take_add_one:=@List.take_add_one
theorem Vx:type_of% @List.getElem?_append:=@List.getElem?_append
theorem Vy:type_of% @List.mem_cons_of_mem:=@List.mem_cons_of_mem
theorem Vz:type_of% @List.set_eq_take_append_cons_drop:=@List.set_eq_take_append_cons_drop
theorem V4:type_of% @List.not_mem_nil:=@List.not_mem_nil
theorem V5:type_of% @Int.le_trans:=@Int.le_trans
theorem V6:type_of% @List.getD_cons_zero:=@List.getD_cons_zero
theorem V7:type_of% @List.length_eq_zero_iff:=@List.length_eq_zero_iff
theorem V8:type_of% @List.length_set:=@List.length_set
theorem V9:type_of% @List.filter_append:=@List.filter_append
theorem Ua:type_of% @List.zip_nil_right:=@List.zip_nil_right
theorem Ub:type_of% @Nat.one_mul:=@Nat.one_mul
theorem Uc:type_of% @Array.getElem?_eq_none:=@Array.getElem?_eq_none
theorem Ud:type_of% @List.find?_cons_of_neg:=@List.find?_cons_of_neg
theorem Ue:type_of% @Int.mul_le_mul_of_nonneg_left:=@Int.mul_le_mul_of_nonneg_left
theorem Ug:type_of% @Int.emod_eq_of_lt:=@Int.emod_eq_of_lt
theorem Uh:type_of% @Bool.and_false:=@Bool.and_false
theorem Ui:type_of% @Bool.true_or:=@Bool.true_or
theorem Uj:type_of% @List.length_filter_le:=@List.length_filter_le
theorem Uk:type_of% @Int.natCast_zero:=@Int.natCast_zero
theorem Ul:type_of% @List.mem_of_mem_drop:=@List.mem_of_mem_drop
theorem Um:type_of% @Nat.sub_mul:=@Nat.sub_mul
theorem Un:type_of% @List.filter_eq_self:=@List.filter_eq_self
theorem Uo:type_of% @Array.getElem_append_left:=@Array.getElem_append_left
theorem Up:type_of% @List.getElem_append_right:=@List.getElem_append_right
theorem Uq:type_of% @Option.isSome_none:=@Option.isSome_none
theorem Ur:type_of% @List.getElem_append_left:=@List.getElem_append_left
theorem Us:type_of% @List.countP_append:=@List.countP_append
theorem Ut:type_of% @List.getElem_range:=@List.getElem_range
theorem Uu:type_of% @Nat.mod_lt:=@Nat.mod_lt
theorem Uv:type_of% @Bool.not_eq_true':=@Bool.not_eq_true'
theorem Uw:type_of% @List.length_range:=@List.length_range
theorem Ux:type_of% @Classical.not_not:=@Classical.not_not
theorem Uy:type_of% @List.flatMap_cons:=@List.flatMap_cons
theorem Uz:type_of% @List.drop_of_length_le:=@List.drop_of_length_le
theorem U4:type_of% @List.map_take:=@List.map_take
theorem U5:type_of% @List.getElem_map:=@List.getElem_map
theorem U6:type_of% @List.reverse_nil:=@List.reverse_nil
theorem U7:type_of% @List.mem_flatMap:=@List.mem_flatMap
theorem U8:type_of% @List.drop_length:=@List.drop_length
theorem U9:type_of% @Nat.eq_of_beq_eq_true:=@Nat.eq_of_beq_eq_true
theorem Ta:type_of% @Bool.eq_iff_iff:=@Bool.eq_iff_iff
theorem Tc:type_of% @List.range_eq_range':=@List.range_eq_range'
theorem Td:type_of% @Array.getElem_modify:=@Array.getElem_modify
theorem Te:type_of% @Option.map_none:=@Option.map_none
theorem Tg:type_of% @Nat.add_comm:=@Nat.add_comm
theorem Th:type_of% @List.mem_of_getElem?:=@List.mem_of_getElem?
theorem Ti:type_of% @List.map_const':=@List.map_const'
theorem aa {p:Prop}(h:p:=by omega):p:=h
theorem ac {p:Prop}(h:p:=by kernel_rfl):p:=h
theorem ae {p:Prop}(h:p:=by simp):p:=h
theorem af {p:Prop}(h:p:=by decide):p:=h
inductive RCap where
 |full
 |tok (k e s:Nat)
 |unk
 deriving DecidableEq
inductive HCap where
 |exact
 |least
 |grow (s:Nat)
 |both (s:Nat)
 deriving DecidableEq
def HCap.cut(s:Nat):HCap->HCap
 | .grow s'=>if s'=s then .grow s' else .least
 | .both s'=>if s'=s then .both s' else .least
 |_=>.least
def HCap.room(s:Nat):HCap->Bool
 | .grow s'=>s'==s
 | .both s'=>s'==s
 |_=>false
inductive V where
 |bool (b:Bool)
 |int (k:IntKind) (n:Int)
 |str (s:List UInt8)
 |ptr (b off:Nat)
 |nilptr
 |rptr (cells:List V)
 |hsl (b off len cap:Nat) (ex:HCap)
 |row (cells:List V) (len:Nat) (cap:RCap)
 |nilsl
 |func (fn:FuncId) (first captured:List V)
 |yld (l:Nat)
 |nilfn
 |iface (t:TypeId) (v:V)
 |nilif
 |agg (cs:List V)
 |tup (vs:List V)
 |nilmap
 |map (b:Nat)
 |meth (name:String) (recv:V)
 |any
def V.cells:V->List V
 | .agg cs=>cs
 |v=>[v]
def V.isCell:V->Bool
 | .agg _=>false
 | .tup _=>false
 |_=>true
inductive AObj where
 |cells (cs:List V) (elem:TypeId)
 |loop (st:LoopState) (pend:Option Code) (fn:FuncId) (tmps:List V) (params:Array Tmp) (asg body:Code) (dfr:Nat)
 |defd (opn:Bool)
 |iter (s:List UInt8) (pos:Nat)
 |ro (cs:List V) (elem:TypeId)
 |map (es:List (V × V × Nat)) (clock:Nat)
 |dead
 |resv
def AObj.isRo:AObj->Bool
 | .ro _ _=>true
 | .dead=>true
 | .resv=>true
 |_=>false
structure S where
 heap:List AObj
 toks:List Nat
def S.empty:S:=⟨[],[]⟩
structure Env where
 P:Program
 pure:FuncId->Bool
 mutb:FuncId->Nat->Bool
 gl:Nat->Option V
 hook:FuncId->Option (List V->Option V)
 stab:FuncId->Nat->Bool:=λ_ _=>false
 rowB:Bool:=false
 pan:FuncId->Bool:=λ_=>false
def lim:Nat:=2^40
def jlf:Value->Option V
 | .bool b=>some (.bool b)
 | .int k n=>some (.int k n)
 | .string s=>some (.str s.data.toList)
 | .pointer none=>some .nilptr
 | .slice none 0 0=>some .nilsl
 | .nilFunc=>some .nilfn
 | .nilIface=>some .nilif
 | .map none=>some .nilmap
 |_=>none
def jgv:Value->Option V
 | .agg cs=>(cs.toList.mapM jlf).map .agg
 |v=>jlf v
section
variable (E:Env)
def sz(t:TypeId):Option Nat:=(E.P.info? t).map (·.size)
def bys(t:TypeId):Option Nat:=(E.P.info? t).map (·.bytes)
def aggT(t:TypeId):Option Bool :=
 match E.P.underlying t with
 |some (.struct _)=>some true
 |some (.array _ _)=>some true
 |some _=>some false
 |none=>none
def jba(t:TypeId):Option V:=((E.P.info? t).bind (·.zero)).bind jgv
def jhG(t:TypeId):Option Nat:=((E.P.info? t).bind (·.zero)).map (·.cells.size)
def jf1(t:TypeId):Option TypeId :=
 match E.P.underlying t with
 |some (.slice e)=>some e
 |_=>none
end
def jbv(E:Env)(tmps:List V):Operand->Option V
 | .tmp t=>some (tmps.getD t (.tup []))
 | .const v=>jgv v
 | .global g=>E.gl g
 | .func f=>some (.func f [] [])
def jjy(s:Nat):RCap->RCap
 | .tok k e s'=>if s'=s then .tok k e s' else .unk
 |c=>c
def ja0(x:Option V)(dflt top:Nat):Option Nat :=
 match x with
 |none=>some dflt
 |some (.int _ i)=>if 0<=i/\i<=top then some i.toNat else none
 |some _=>none
def jcM(s:Nat)(x:V)(lo hi mx:Option V):Option V :=
 match x,mx with
 | .str b,none =>
  match ja0 hi b.length b.length with
  |some h=>match ja0 lo 0 h with
   |some l=>some (.str ((b.drop l).take (h-l)))
   |none=>none
  |none=>none
 | .nilsl,none =>
  match ja0 hi 0 0 with
  |some h=>match ja0 lo 0 h with
   |some _=>some .nilsl
   |none=>none
  |none=>none
 | .row cells len cap,none =>
  match ja0 hi len len with
  |some h=>match ja0 lo 0 h with
   |some l=>some (.row ((cells.drop (l*s)).take ((h-l)*s)) (h-l) (if h=len then jjy s cap else .unk))
   |none=>none
  |none=>none
 | .row cells len _,some m =>
  match ja0 (some m) 0 len with
  | some mm=>match hi with
   | some h0=>match ja0 (some h0) 0 mm with
    |some h=>match ja0 lo 0 h with
     |some l=>some (.row ((cells.drop (l*s)).take ((h-l)*s)) (h-l) (if h=mm then .full else .unk))
     |none=>none
    |none=>none
   |none=>none
  |none=>none
 | .hsl b off len cap .exact,none =>
  match ja0 hi len cap with
  |some h=>match ja0 lo 0 h with
   |some l=>some (.hsl b (if l=cap then off else off+l*s) (h-l) (cap-l) .exact)
   |none=>none
  |none=>none
 | .hsl b off len cap ex,none =>
  match ja0 hi len cap with
  |some h=>match ja0 lo 0 h with
   |some l=>if l<cap\/l=0 then some (.hsl b (off+l*s) (h-l) (cap-l) (ex.cut s))else if h=l then some (.row [] 0 .unk)else none
   |none=>none
  |none=>none
 |_,_=>none
def jfb(n s:Nat)(x:V)(lo hi mx:Option V):Option V :=
 match x,mx with
 | .rptr cells,none =>
  match ja0 hi n n with
  |some h=>match ja0 lo 0 h with
   |some l=>some (.row ((cells.drop (l*s)).take ((h-l)*s)) (h-l) (if h=n then .full else .unk))
   |none=>none
  |none=>none
 | .ptr b off,none =>
  match ja0 hi n n with
  |some h=>match ja0 lo 0 h with
   |some l=>some (.hsl b (if n=l then off else off+l*s) (h-l) (n-l) .exact)
   |none=>none
  |none=>none
 |_,_=>none
def jaw(s:Nat)(x ix:V):Option V :=
 match x,ix with
 | .row cells len _,.int _ i=>if 0<=i/\i<len then some (.rptr (cells.drop (i.toNat*s)))else none
 | .hsl b off len _ _,.int _ i=>if 0<=i/\i<len then some (.ptr b (off+i.toNat*s))else none
 |_,_=>none
def jfc(n s:Nat)(x ix:V):Option V :=
 match x,ix with
 | .rptr cells,.int _ i=>if 0<=i/\i<n then some (.rptr (cells.drop (i.toNat*s)))else none
 | .ptr b off,.int _ i=>if 0<=i/\i<n then some (.ptr b (off+i.toNat*s))else none
 |_,_=>none
def jdV(off:Nat):V->Option V
 | .rptr cells=>some (.rptr (cells.drop off))
 | .ptr b o=>some (.ptr b (o+off))
 |_=>none
def jh9(isagg:Bool)(s:Nat)(cs:List V)(off:Nat):Option V :=
 if isagg then some (.agg ((cs.drop off).take s))else cs[off]?
def vLen:V->Option Nat
 | .str b=>some b.length
 | .row _ len _=>some len
 | .hsl _ _ len _ _=>some len
 | .nilsl=>some 0
 |_=>none
def jaV(h:List AObj)(s n:Nat):V->Option (List V)
 | .row cells len _=>if n<=len/\n*s<=cells.length then some (cells.take (n*s))else none
 | .hsl b off len _ _ =>
  match h[b]? with
  |some (.cells cs _)=>if n<=len/\off+n*s<=cs.length then some ((cs.drop off).take (n*s))else none
  |some (.ro cs _)=>if n<=len/\off+n*s<=cs.length then some ((cs.drop off).take (n*s))else none
  |_=>none
 | .nilsl=>if n=0 then some []else none
 | .str b=>if n<=b.length/\s=1 then some ((b.take n).map λx=>.int .u8 x.toNat)else none
 |_=>none
def jeJ:List V->Option (List UInt8)
 | []=>some []
 | .int .u8 n::r=>(jeJ r).map (UInt8.ofNat n.toNat :: ·)
 |_=>none
def jee(op:BinOp)(k:IntKind)(a b:Int):Option V :=
 match op with
 | .add=>some (.int k (k.wrap (a+b)))
 | .sub=>some (.int k (k.wrap (a-b)))
 | .mul=>some (.int k (k.wrap (a*b)))
 | .quo=>if b=0 then none else some (.int k (k.wrap (a.tdiv b)))
 | .rem=>if b=0 then none else some (.int k (a.tmod b))
 | .and=>some (.int k (k.wrap (BitVec.ofInt k.bits a &&& BitVec.ofInt k.bits b).toNat))
 | .or=>some (.int k (k.wrap (BitVec.ofInt k.bits a |||BitVec.ofInt k.bits b).toNat))
 | .xor=>some (.int k (k.wrap (BitVec.ofInt k.bits a ^^^BitVec.ofInt k.bits b).toNat))
 | .andNot=>some (.int k (k.wrap (BitVec.ofInt k.bits a &&& ~~~BitVec.ofInt k.bits b).toNat))
 | .eql=>some (.bool (a==b))
 | .neq=>some (.bool (a != b))
 | .lss=>some (.bool (a<b))
 | .leq=>some (.bool (a<=b))
 | .gtr=>some (.bool (a>b))
 | .geq=>some (.bool (a >= b))
 |_=>none
def jjz(op:BinOp)(k:IntKind)(a b:Int):Option V :=
 if b<0 then none else
 match op with
 | .shl=>some (.int k (k.wrap (a*2^min b.toNat k.bits)))
 | .shr=>some (.int k (a.fdiv (2^min b.toNat k.bits)))
 |_=>none
def jlg(op:BinOp)(x y:List UInt8):Option V :=
 match op with
 | .add=>if x.length+y.length<=lim then some (.str (x++y))else none
 | .eql=>some (.bool (x==y))
 | .neq=>some (.bool !(x==y))
 | .lss=>some (.bool (Op.bytesLess x y))
 | .leq=>some (.bool (Op.bytesLess x y ||x==y))
 | .gtr=>some (.bool !(Op.bytesLess x y ||x==y))
 | .geq=>some (.bool !(Op.bytesLess x y))
 |_=>none
def vBin(op:BinOp)(x y:V):Option V :=
 match op,x,y with
 | .shl,.int k a,.int _ b=>jjz .shl k a b
 | .shr,.int k a,.int _ b=>jjz .shr k a b
 |op,.int k a,.int k' b=>if k=k' then jee op k a b else none
 |op,.str a,.str b=>jlg op a b
 |_,_,_=>none
def jdi:Operand->Bool
 | .const _=>true
 |_=>false
def vEq(us:Option TypeDesc)(c:Bool)(a b:V):Option Bool :=
 match us,a,b with
 |some .bool,.bool x,.bool y=>some (x==y)
 |some (.pointer _),.nilptr,.nilptr=>some true
 |some (.pointer _),.nilptr,.ptr _ _=>some false
 |some (.pointer _),.nilptr,.rptr _=>some false
 |some (.pointer _),.ptr _ _,.nilptr=>some false
 |some (.pointer _),.rptr _,.nilptr=>some false
 |some (.interface _),.nilif,.nilif=>if c then some true else none
 |some (.interface _),.nilif,.iface _ _=>some false
 |some (.interface _),.iface _ _,.nilif=>some false
 |some (.slice _),.nilsl,.nilsl=>some true
 |some (.slice _),.nilsl,.row _ _ _=>some false
 |some (.slice _),.row _ _ _,.nilsl=>some false
 |some (.slice _),.nilsl,.hsl _ _ _ _ _=>some false
 |some (.slice _),.hsl _ _ _ _ _,.nilsl=>some false
 |some (.func _ _ _),.nilfn,.nilfn=>some true
 |some (.func _ _ _),.nilfn,.func _ _ _=>some false
 |some (.func _ _ _),.func _ _ _,.nilfn=>some false
 |_,_,_=>none
def jbV(us:Option TypeDesc)(c:Bool)(op:BinOp)(a b:V):Option V :=
 match vBin op a b with
 |some v=>some v
 |none =>
  match op with
  | .eql=>(vEq us c a b).map .bool
  | .neq=>(vEq us c a b).map λr=>.bool !r
  |_=>none
def vUn(op:UnOp)(x:V):Option V :=
 match op,x with
 | .not,.bool b=>some (.bool !b)
 | .neg,.int k n=>some (.int k (k.wrap (0-n)))
 | .xor,.int k n=>some (.int k (k.wrap (BitVec.ofInt k.bits (if k.signed then -1 else k.max) ^^^BitVec.ofInt k.bits n).toNat))
 |_,_=>none
def jeK(place:Nat->Option (Nat × Nat))(cells:List V):List (Nat × V)->Option (List V)
 | []=>some cells
 | (i,v)::rest =>
  match place i with
  |none=>none
  | some (off,size) =>
   if v.cells.length=size/\off+size<=cells.length then
    jeK place (cells.take off++v.cells++cells.drop (off+size)) rest
   else none
def jd4(mx:Bool)(k:IntKind)(a:Int):List V->Option V
 | []=>some (.int k a)
 | .int _ b::r=>jd4 mx k (if mx then(if b>a then b else a)else(if b<a then b else a)) r
 |_=>none
def jdE(mx:Bool):List V->Option V
 | .int k a::r=>jd4 mx k a r
 |_=>none
def jfG(E:Env)(t:TypeId):Option (Nat->Option (Nat × Nat)) :=
 match E.P.underlying t with
 |some (.struct fields)=>(fields.toList.mapM λf=>(sz E f.type).map λs=>(f.offset,s)).map λl i=>l[i]?
 |some (.array _ e)=>(sz E e).map λs i=>some (i*s,s)
 |_=>none
def optO(ρ:Operand->Option V):Option Operand->Option (Option V)
 |none=>some none
 |some x=>(ρ x).map some
def jcH(ρ:Operand->Option V):List (Nat × Operand)->Option (List (Nat × V))
 | []=>some []
 |(i,x)::r=>(ρ x).bind λv=>(jcH ρ r).map λl=>(i,v)::l
def jfH(E:Env)(cmp:TypeId->V->V->Option Bool)(xs ys:List V):List Field->Option Bool
 | []=>some true
 | f::r =>
  if f.name ≠ "_" then
   (sz E f.type).bind λs=>(aggT E f.type).bind λg=>(jh9 g s xs f.offset).bind λx=>(jh9 g s ys f.offset).bind λy=>(cmp f.type x y).bind λb =>
    if b then jfH E cmp xs ys r else some false
  else jfH E cmp xs ys r
def jia(cmp:V->V->Option Bool)(g:Bool)(s:Nat)(xs ys:List V):List Nat->Option Bool
 | []=>some true
 |i::r=>(jh9 g s xs (i*s)).bind λx=>(jh9 g s ys (i*s)).bind λy=>(cmp x y).bind λb=>if b then jia cmp g s xs ys r else some false
def eqT(E:Env):Nat->TypeId->V->V->Option Bool
 |0,_,_,_=>none
 |d+1,t,x,y =>
  match E.P.underlying t,x,y with
  |some .bool,.bool a,.bool b=>some (a==b)
  |some (.int _),.int k a,.int k' b=>if k=k' then some (a==b)else none
  |some .string,.str a,.str b=>some (a==b)
  |some (.struct fields),.agg xs,.agg ys=>if E.P.stoodInHeld t then none else jfH E (eqT E d) xs ys fields.toList
  |some (.array len e),.agg xs,.agg ys=>(sz E e).bind λs=>(aggT E e).bind λg=>jia (eqT E d e) g s xs ys (List.range len)
  |_,_,_=>none
def jkn(E:Env)(t:TypeId)(a o b o':Nat):Bool :=
 match E.P.underlying t with
 |some (.pointer e)=>decide (a=b) && decide (o=o') && (sz E e).isSome
 |_=>false
def jhL(E:Env)(t tx:TypeId):Bool :=
 match E.P.underlying t,E.P.underlying tx,(E.P.info? tx).map (·.comparable)with
 |some (.interface _),some (.int _),some true=>true
 |_,_,_=>false
def jth(E:Env)(t:TypeId)(op:BinOp)(x y:V):Option V :=
 match op,x,y with
 | .eql,.agg xs,.agg ys=>if E.P.eqGuardType E.P.depth t then none else(eqT E 8 t (.agg xs) (.agg ys)).map .bool
 | .neq,.agg xs,.agg ys=>if E.P.eqGuardType E.P.depth t then none else(eqT E 8 t (.agg xs) (.agg ys)).map λr=>.bool !r
 | .eql,.ptr a o,.ptr b o'=>if jkn E t a o b o' then some (.bool true)else none
 | .neq,.ptr a o,.ptr b o'=>if jkn E t a o b o' then some (.bool false)else none
 | .eql,.iface tx (.int k a),.iface ty (.int k' b)=>if tx=ty/\k=k'/\jhL E t tx=true then some (.bool (a==b))else none
 | .neq,.iface tx (.int k a),.iface ty (.int k' b)=>if tx=ty/\k=k'/\jhL E t tx=true then some (.bool (a != b))else none
 |_,_,_=>none
def jlh(E:Env)(t:TypeId)(c:Bool)(op:BinOp)(x y:V):Option V :=
 match jbV (E.P.underlying t) c op x y with
 |some v=>some v
 |none=>jth E t op x y
def jcj(E:Env)(kt:TypeId)(k:V):List (V × V × Nat)->Nat->Option (Option Nat)
 | [],_=>some none
 |e::r,i=>(eqT E 8 kt k e.1).bind λb=>if b then some (some i)else jcj E kt k r (i+1)
def jhH:Nat->V->V->Bool
 |_,.bool a,.bool b=>a==b
 |_,.int j a,.int k b=>decide (j=k) && (a==b)
 |_,.str a,.str b=>a==b
 |d+1,.agg a,.agg b=>decide (a.length=b.length) && (a.zip b).all λp=>jhH d p.1 p.2
 |_,_,_=>false
def jcY(E:Env):Nat->TypeId->V->Bool
 |0,_,_=>false
 | d+1,t,v =>
  match E.P.underlying t,v with
  |some .bool,_=>true
  |some (.int _),_=>true
  |some .string,_=>true
  | some (.struct fields),.agg cs=>fields.toList.all λf=>f.name== "_" ||
    (match sz E f.type,aggT E f.type with
     |some s,some g=>(match jh9 g s cs f.offset with|some x=>jcY E d f.type x|none=>false)
     |_,_=>false)
  |_,_=>false
def jb1(ρ:Operand->Option V):List Operand->Option (List V)
 | []=>some []
 |x::r=>(ρ x).bind λv=>(jb1 ρ r).map λl=>v::l
def jbb(d:Option TypeDesc)(v:V):Option V :=
 match d,v with
 |some .string,.str b=>some (.int .i64 b.length)
 |some (.slice _),.row _ len _=>some (.int .i64 len)
 |some (.slice _),.hsl _ _ len _ _=>some (.int .i64 len)
 |some (.slice _),.nilsl=>some (.int .i64 0)
 |some (.array n _),_=>some (.int .i64 n)
 |_,_=>none
def jpp(d:Option TypeDesc)(v:V):Option V :=
 match d,v with
 |some (.slice _),.nilsl=>some (.int .i64 0)
 |some (.slice _),.row _ len .full=>some (.int .i64 len)
 |some (.slice _),.hsl _ _ _ cap .exact=>some (.int .i64 cap)
 |some (.slice _),.hsl _ _ _ cap (.both _)=>some (.int .i64 cap)
 |_,_=>none
def jib(E:Env)(h:List AObj)(us ud:TypeDesc)(v:V):Option V :=
 match us,ud,v with
 | .pointer t,.unsafePointer,.ptr b off =>
  match h[b]? with
  |some (.cells cs _)=>if off<cs.length/\((sz E t).map λs=>decide (s=0))=some false then some (.ptr b off)else none
  |_=>none
 | .unsafePointer,.pointer u,.ptr b off =>
  match h[b]? with
  |some (.cells cs e)=>if off=0/\e=u/\0<E.P.cellsOf u/\E.P.cellsOf u<=cs.length then some (.ptr b off)else none
  |_=>none
 |_,_,_=>none
def jgV(E:Env)(v:V)(name:String):Option (FuncId × V) :=
 match v with
 | .iface t x=>((E.P.info? t).bind λi=>i.methods.find? (·.name==name)).bind λm =>
  if m.path.isEmpty then
   match m.func,E.P.underlying t with
   |some (f,true),some (.pointer _)=>some (f,x)
   |some (_,false),some (.pointer _)=>none
   |some (f,false),some _=>some (f,x)
   |_,_=>none
  else none
 |_=>none
def jbK(E:Env)(ρ:Operand->Option V):Op->Option V
 | .move x=>ρ x
 | .assign x=>ρ x
 | .pick c a b=>(ρ c).bind fun
  | .bool t=>(ρ a).bind λx=>(ρ b).bind λy=>some (if t then x else y)
  |_=>none
 | .build t parts=>(jcH ρ parts.toList).bind λps=>(jba E t).bind λz=>(jfG E t).bind λpl =>
   (jeK pl z.cells ps).map .agg
 | .binOp op t x y _=>(ρ x).bind λa=>(ρ y).bind λb=>jlh E t (jdi x ||jdi y) op a b
 | .unOp op _ x=>(ρ x).bind λa=>vUn op a
 | .convert src dst x=>(ρ x).bind λv =>
  match E.P.underlying src,E.P.underlying dst,v with
  |some _,some (.int k),.int _ n=>some (.int k (k.wrap n))
  |some _,some .string,.str s=>some (.str s)
  |some _,some .string,.int _ n=>if 0<=n/\n<128 then some (.str [UInt8.ofNat n.toNat])else none
  |_,_,_=>none
 | .makeFunc (.func f) first captured=>(jb1 ρ first.toList).bind λa=>(jb1 ρ captured.toList).map λc=>.func f a c
 | .makeFunc (.method name) first captured=>match first.toList,captured.toList with
  | [x],[]=>(ρ x).map (.meth name)
  |_,_=>none
 | .makeInterface t x=>(ρ x).bind λv =>
  match E.P.underlying t with
  |some (.interface _)=>none
  |some _=>some (.iface t v)
  |none=>none
 | .slice t x lo hi mx=>(ρ x).bind λv=>(optO ρ lo).bind λl=>(optO ρ hi).bind λh=>(optO ρ mx).bind λm =>
  match E.P.underlying t with
  |some .string=>(match v with| .str b=>jcM 0 (.str b) l h m|_=>none)
  |some (.slice e)=>(sz E e).bind λs =>
   match v with
   | .str _=>none
   |v=>jcM s v l h m
  |some (.array n e)=>(sz E e).bind λs=>jfb n s v l h m
  |_=>none
 | .nilCheck x=>(ρ x).bind fun
  | .ptr b o=>some (.ptr b o)
  | .rptr cs=>some (.rptr cs)
  | .meth name r=>(jgV E r name).map λ_=>.meth name r
  |_=>none
 | .fieldAddr t x f=>(ρ x).bind λv =>
  match E.P.underlying t with
  |some (.struct fields)=>(fields[f]?).bind λfd=>(sz E fd.type).bind λs=>if s=0 then none else jdV fd.offset v
  |_=>none
 | .field t x f=>(ρ x).bind λv =>
  match E.P.underlying t,v with
  |some (.struct fields),.agg cs=>(fields[f]?).bind λfd=>(sz E fd.type).bind λs=>(aggT E fd.type).bind λg=>jh9 g s cs fd.offset
  |_,_=>none
 | .indexAddr t x ix=>(ρ x).bind λv=>(ρ ix).bind λi =>
  match E.P.underlying t with
  |some (.slice e)=>(sz E e).bind λs=>jaw s v i
  |some (.array n e)=>(sz E e).bind λs=>jfc n s v i
  |_=>none
 | .index t x ix=>(ρ x).bind λv=>(ρ ix).bind λi =>
  match E.P.underlying t,v,i with
  |some .string,.str s,.int _ n=>if 0<=n/\n<s.length then some (.int .u8 (s.getD n.toNat 0).toNat)else none
  |some (.array len e),.agg cs,.int _ n=>if 0<=n/\n<len then(sz E e).bind λs=>(aggT E e).bind λg=>jh9 g s cs (n.toNat*s)else none
  |_,_,_=>none
 | .extract x i=>(ρ x).bind fun
  | .tup vs=>vs[i]?
  |_=>none
 | .call c =>
  match c.callee with
  | .builtin .len=>(jb1 ρ c.args.toList).bind fun
   | [v]=>(c.argTypes[0]?).bind λt =>
    jbb (E.P.underlying t) v
   |_=>none
  | .builtin .cap=>(jb1 ρ c.args.toList).bind fun
   | [v]=>(c.argTypes[0]?).bind λt =>
    jpp (E.P.underlying t) v
   |_=>none
  | .builtin .max=>(jb1 ρ c.args.toList).bind (jdE true)
  | .builtin .min=>(jb1 ρ c.args.toList).bind (jdE false)
  |_=>none
 |_=>none
def jab(h:List AObj)(n:Nat):V->Option (List V)
 | .rptr cells=>if n<=cells.length then some (cells.take n)else none
 | .ptr b off =>
  match h[b]? with
  |some (.cells cs _)=>if off+n<=cs.length then some ((cs.drop off).take n)else none
  |some (.ro cs _)=>if off+n<=cs.length then some ((cs.drop off).take n)else none
  |_=>none
 |_=>none
def jaH(E:Env)(h:List AObj)(t:TypeId)(p:V):Option V :=
 (aggT E t).bind fun
 |true=>(sz E t).bind λs=>(jab h s p).map .agg
 |false=>(jab h 1 p).bind (·[0]?)
def ju9(ok:Bool)(v:V)(is:Bool):V:=if ok then .tup [v,.bool is]else v
def jqA(ok:Bool)(es:List (V × V × Nat))(z:V):Option Nat->V
 |some j=>ju9 ok ((es[j]?.map (·.2.1)).getD z) true
 |none=>ju9 ok z false
def jbh(E:Env)(ρ:Operand->Option V)(U:S):Op->Option V
 | .load t x=>(ρ x).bind λp=>jaH E U.heap t p
 | .lookup t m k ok=>(ρ m).bind λmv=>(ρ k).bind λkv =>
  match E.P.underlying t,mv with
  | some (.map kt et),.map b =>
   match U.heap[b]? with
   |some (.map es _) =>
    if jcY E 8 kt kv then(jba E et).bind λz=>(jcj E kt kv es 0).map (jqA ok es z)
    else none
   |_=>none
  |_,_=>none
 | .convert src dst x=>(ρ x).bind λv =>
  match E.P.underlying src,E.P.underlying dst with
  |some (.slice e),some .string =>
   match E.P.underlying e,v with
   |some (.int .u8),.row cells len cap=>(jaV U.heap 1 len (.row cells len cap)).bind λcs=>(jeJ cs).map .str
   |some (.int .u8),.hsl b off len cap ex=>(jaV U.heap 1 len (.hsl b off len cap ex)).bind λcs=>(jeJ cs).map .str
   |some (.int .u8),.nilsl=>some (.str [])
   |_,_=>none
  |some us,some ud=>jib E U.heap us ud v
  |_,_=>none
 |_=>none
def S.push(U:S)(o:AObj):S:=⟨U.heap++[o],U.toks⟩
def S.set(U:S)(b:Nat)(o:AObj):S:=⟨U.heap.set b o,U.toks⟩
def jaa(cs:List V)(off:Nat)(new:List V):List V:=cs.take off++new++cs.drop (off+new.length)
def jcg(U:S)(new:List V):V->Option S
 | .ptr b off =>
  match U.heap[b]? with
  |some (.cells cs t)=>if off+new.length<=cs.length/\new.all V.isCell then some (U.set b (.cells (jaa cs off new) t))else none
  |_=>none
 |_=>none
def jbk (mutb:Bool)(s by' m:Nat)(elem:TypeId)(new:List V)(x:V)(U:S):Option (V × S) :=
  match x with
  | .nilsl =>
    if m=0 then some (.nilsl,U)else
    if m*by'<=lim/\m<=lim then
      if mutb then some (.hsl U.heap.length 0 m m (.grow s),U.push (.cells new elem))
      else some (.row new m (.tok U.toks.length 0 s),⟨U.heap,U.toks++[0]⟩)
    else none
  | .row cells len cap =>
    if m=0 then some (x,U)else
    if (len+m)*by'<=lim/\len+m<=lim/\cells.length=len*s/\new.all V.isCell then
      match cap with
      | .full =>
        if mutb then some (.hsl U.heap.length 0 (len+m) (len+m) (.grow s),U.push (.cells (cells++new) elem))
        else some (.row (cells++new) (len+m) (.tok U.toks.length 0 s),⟨U.heap,U.toks++[0]⟩)
      | .tok k e s' =>
        if U.toks[k]? = some e/\s'=s then some (.row (cells++new) (len+m) (.tok k (e+1) s),⟨U.heap,U.toks.set k (e+1)⟩)else none
      | .unk=>none
    else none
  | .hsl b off len cap ex =>
    if len+m<=cap then
      if m=0 then some (x,U)else
      (jcg U new (.ptr b (off+len*s))).map λU'=>(.hsl b off (len+m) cap ex,U')
    else
    if ex=.exact/\(len+m)*by'<=lim/\len+m<=lim then
      (jaV U.heap s len x).map λold =>
        if mutb then(.hsl U.heap.length 0 (len+m) (len+m) (.grow s),U.push (.cells (old++new) elem))
        else(.row (old++new) (len+m) (.tok U.toks.length 0 s),⟨U.heap,U.toks++[0]⟩)
    else
    if ex=.grow s/\off=0/\(len+m)*by'<=lim/\len+m<=lim/\new.all V.isCell then
      match U.heap[b]? with
      |some (.cells cs t)=>if t=elem/\len*s<=cs.length then some (.hsl U.heap.length 0 (len+m) (len+m) (.grow s),(U.set b .dead).push (.cells (cs.take (len*s)++new) elem))else none
      |_=>none
    else none
  |_=>none
def jqB(E:Env)(mutb:Bool)(s by':Nat)(elem:TypeId)(x y:V)(U:S):Option (V × S) :=
 match x,y with
 | .nilsl,.int _ n =>
  if n=0 then some (.nilsl,U)else
  if 0<n/\n<=lim/\n*by'<=lim/\0<s then
   (jba E elem).bind λz =>
    if z.cells.length=s then
     if mutb then some (.hsl U.heap.length 0 n.toNat n.toNat (.grow s),U.push (.cells (List.replicate n.toNat z.cells).flatten elem))
     else some (.row (List.replicate n.toNat z.cells).flatten n.toNat (.tok U.toks.length 0 s),⟨U.heap,U.toks++[0]⟩)
    else none
  else none
 |_,_=>none
def jdv(s:List UInt8):List V:=s.map λb=>.int .u8 b.toNat
def jbG (E:Env)(mutb:Bool)(ρ:Operand->Option V)(U:S):Op->Option (V × S)
  | .convert src dst x=>(ρ x).bind λv =>
    match E.P.underlying src,E.P.underlying dst,v with
    | some _,some (.slice e),.str s =>
      match E.P.underlying e with
      |some (.int .u8)=>some (.row (jdv s) s.length .unk,U)
      |_=>none
    | some (.slice _),some (.slice e),.hsl b off len cap _ =>
      if src=dst then
        match E.P.underlying e,U.heap[b]? with
        |some (.int .u8),some (.cells cs t)=>if len<=cap/\off+len<=cs.length then some (.row ((cs.drop off).take len) len .unk,U.set b (.ro cs t))else none
        |_,_=>none
      else none
    |_,_,_=>none
  | .alloc t=>(jba E t).map λz=>(.ptr U.heap.length 0,U.push (.cells z.cells t))
  | .box t x=>(ρ x).map λv=>(.ptr U.heap.length 0,U.push (.cells v.cells t))
  | .buildSlice t len parts=>(jcH ρ parts.toList).bind λps=>(jf1 E t).bind λe=>(sz E e).bind λs =>
      (if len*s=0 then some (.agg [])else jba E e).bind λz =>
      if len*s<=2^24/\(z.cells.length=s\/len*s=0)then
        (jeK (λi=>some (i*s,s)) (List.replicate len z.cells).flatten ps).map λcs =>
          if mutb && !E.rowB then(.hsl U.heap.length 0 len len .exact,U.push (.cells cs e))else(.row cs len .full,U)
      else none
  | .makeSlice t l c=>(ρ l).bind λlv=>(ρ c).bind λcv=>(jf1 E t).bind λe=>(sz E e).bind λs=>(bys E e).bind λby' =>
      match lv,cv with
      | .int .i64 l,.int .i64 c =>
        if 0<=l/\l<=c/\c<=lim/\c*by'<=lim then
          (if c.toNat*s=0 then some (.agg [])else jba E e).bind λz =>
          if z.cells.length=s\/c.toNat*s=0 then
            if mutb then some (.hsl U.heap.length 0 l.toNat c.toNat .exact,U.push (.cells (List.replicate c.toNat z.cells).flatten e))
            else if l=c then some (.row (List.replicate c.toNat z.cells).flatten c.toNat .full,U)
            else some (.row ((List.replicate c.toNat z.cells).flatten.take (l.toNat*s)) l.toNat (.tok U.toks.length 0 s),⟨U.heap,U.toks++[0]⟩)
          else none
        else none
      |_,_=>none
  | .store t a x=>(ρ a).bind λp=>(ρ x).bind λv=>(sz E t).bind λs =>
      if v.cells.length=s then(jcg U v.cells p).map λU'=>(.tup [],U')else none
  | .makeMap t none =>
    match E.P.underlying t with
    |some (.map _ _)=>some (.map U.heap.length,U.push (.map [] 0))
    |_=>none
  | .insert t m k x| .mapUpdate t m k x=>(ρ m).bind λmv=>(ρ k).bind λkv=>(ρ x).bind λxv =>
    match E.P.underlying t,mv with
    | some (.map kt _),.map b =>
      match U.heap[b]? with
      | some (.map es clock) =>
        if jcY E 8 kt kv then
          match jcj E kt kv es 0 with
          |some none=>some (.tup [],U.set b (.map (es++[(kv,xv,clock)]) (clock+1)))
          | some (some j) =>
            match es[j]? with
            |some e=>if jhH 8 e.1 kv then some (.tup [],U.set b (.map (es.set j (kv,xv,e.2.2)) clock))else none
            |none=>none
          |none=>none
        else none
      |_=>none
    |_,_=>none
  | .call c =>
    match c.callee with
    | .builtin .append=>(jb1 ρ c.args.toList).bind fun
      | [x,y]=>(c.argTypes[0]?).bind λt=>(jf1 E t).bind λe=>(sz E e).bind λs=>(bys E e).bind λby' =>
        match c.argTypes[1]? with
        | some t2 =>
          match E.P.underlying t2 with
          |some (.int _)=>jqB E mutb s by' e x y U
          |some _=>(vLen y).bind λm=>(jaV U.heap s m y).bind λnew=>if jhG E e=some s then jbk mutb s by' m e new x U else none
          |none=>none
        |none=>none
      |_=>none
    | .builtin .len=>(jb1 ρ c.args.toList).bind fun
      | [v]=>(c.argTypes[0]?).bind λt =>
        match E.P.underlying t,v with
        |some (.map _ _),.nilmap=>some (.int .i64 0,U)
        | some (.map _ _),.map b =>
          match U.heap[b]? with
          |some (.map es _)=>some (.int .i64 es.length,U)
          |_=>none
        |_,_=>none
      |_=>none
    |_=>none
  |_=>none
inductive Ex where
 |normal
 |exit (id:Nat)
 |ret
inductive DE where
 |mark (b:Nat)
inductive Task where
 |call (f:FuncId) (args:List V) (U:S)
 |round (l:Nat) (args:List V) (U:S)
 |loop (fn:FuncId) (rnd:Option Nat) (body:Code) (tmps:List V) (dfs:List DE) (U:S)
structure Res where
 ex:Ex
 vals:List V
 dfs:List DE
 st:S
def putT(tmps:List V)(dst:Option Tmp)(v:V):List V :=
 match dst with
 |some d=>tmps.set d v
 |none=>tmps
def jaG(ops:Array Oper)(tmps:List V)(j:Nat):Option Bool :=
 match ((ops[j]?).bind (·.dst)).bind (tmps[·]?)with
 |some (.bool b)=>some b
 |_=>none
def V.closed:V->Bool
 | .bool _| .int _ _| .str _| .nilptr| .nilsl| .nilfn| .nilif| .nilmap| .any=>true
 | .ptr _ _| .hsl _ _ _ _ _| .yld _| .map _=>false
 | .rptr cs=>closedL cs
 | .row cs _ cap=>(match cap with| .tok _ _ _=>false|_=>true) && closedL cs
 | .func _ a b=>closedL a && closedL b
 | .iface _ v=>v.closed
 | .meth _ v=>v.closed
 | .agg cs=>closedL cs
 | .tup cs=>closedL cs
 where closedL:List V->Bool
 | []=>true
 |v::r=>v.closed && closedL r
def jaK(h:List AObj):Nat->V->Option V
 |0,_=>none
 | d+1,v =>
  match v with
  | .row cs len _=>(cs.mapM (jaK h d)).map λc=>.row c len .unk
  | .hsl b off len cap _ =>
   match h[b]? with
   |some (.cells cs _)=>if len<=cap then((cs.drop off).mapM (jaK h d)).map λc=>.row c len .unk else none
   |_=>none
  | .tup vs=>(vs.mapM (jaK h d)).map .tup
  | .agg vs=>(vs.mapM (jaK h d)).map .agg
  | .iface t x=>(jaK h d x).map (.iface t)
  |v=>some (if v.closed then v else .any)
def jak:Nat:=12
def RCap.weak:RCap->RCap
 | .tok _ _ _=>.unk
 |c=>c
def V.weak:V->V
 | .row cs len cap=>.row (weakL cs) len cap.weak
 | .rptr cs=>.rptr (weakL cs)
 | .func f a b=>.func f (weakL a) (weakL b)
 | .iface t v=>.iface t v.weak
 | .meth n v=>.meth n v.weak
 | .agg cs=>.agg (weakL cs)
 | .tup cs=>.tup (weakL cs)
 |v=>v
 where weakL:List V->List V
 | []=>[]
 |v::r=>v.weak::weakL r
def wargs(args:List V):List V:=if args.all V.closed then args else args.map V.weak
def V.beq:V->V->Bool
 | .bool a,.bool b=>a==b
 | .int k n,.int k' n'=>decide (k=k') && decide (n=n')
 | .str s,.str t=>decide (s=t)
 | .ptr a b,.ptr c d=>decide (a=c) && decide (b=d)
 | .nilptr,.nilptr=>true
 | .rptr a,.rptr b=>beqL a b
 | .hsl a b c d e,.hsl a' b' c' d' e'=>decide (a=a') && decide (b=b') && decide (c=c') && decide (d=d') && decide (e=e')
 | .row a n c,.row b m d=>decide (n=m) && decide (c=d) && beqL a b
 | .nilsl,.nilsl=>true
 | .func f a b,.func g c d=>decide (f=g) && beqL a c && beqL b d
 | .yld a,.yld b=>decide (a=b)
 | .nilfn,.nilfn=>true
 | .iface t v,.iface u w=>decide (t=u) && v.beq w
 | .meth t v,.meth u w=>decide (t=u) && v.beq w
 | .nilif,.nilif=>true
 | .agg a,.agg b=>beqL a b
 | .tup a,.tup b=>beqL a b
 | .nilmap,.nilmap=>true
 | .map a,.map b=>decide (a=b)
 | .any,.any=>true
 |_,_=>false
 where beqL:List V->List V->Bool
 | [],[]=>true
 |a::r,b::s=>a.beq b && beqL r s
 |_,_=>false
def jic(acc:List Nat)(o:Oper):Nat :=
 o.after.toList.foldl (λs e=>if Region.binds .any e then s |||(2^e.on |||acc.getD e.on 0)else s) 0
def jat(acc:List Nat):List Oper->List Nat
 | []=>acc
 |o::r=>jat (acc++[jic acc o]) r
def jid(E:Env)(src dst:TypeId):Bool :=
 match E.P.underlying src,E.P.underlying dst with
 |some .string,some (.slice _)=>true
 |_,_=>false
def scOp(E:Env):Op->Bool
 | .call { callee:=.value (.func f),.. } => !(E.pure f ||(E.hook f).isSome)
 | .call { callee:=.builtin .len,argTypes,.. }=>(match argTypes[0]? with|some t=>(match E.P.underlying t with|some (.map _ _)=>true|_=>false)|none=>false)
 | .call { callee:=.builtin .unsafeSliceData,.. }=>false
 | .call { callee:=.builtin .cap,.. } | .call { callee:=.builtin .max,.. } | .call { callee:=.builtin .min,.. }=>false
 | .convert src dst _=>(match E.P.underlying dst with|some (.slice _)=>true|_=>false) && !jid E src dst
 | .buildSlice _ _ _ => !E.rowB
 | .call _| .alloc _| .box _ _| .makeSlice _ _ _| .store _ _ _| .makeMap _ _| .insert _ _ _ _| .mapUpdate _ _ _ _| .mapEntry _ _ _| .entryStore _ _ _ _=>true
 |_=>false
def jby(E:Env):Op->Bool
 | .call { callee:=.value (.func f),.. }=>E.pure f ||(E.hook f).isSome
 | .buildSlice _ _ _=>E.rowB
 | .convert src dst _=>jid E src dst
 |_=>false
def juE(E:Env)(ops:Array Oper)(mj:Nat)(i:Nat)(oi oj:Oper):Bool :=
 mj.testBit i ||(oi.apart ops oj && !(scOp E oi.op && scOp E oj.op))
def jcJ(E:Env)(ops:Array Oper)(masks:List Nat):Bool :=
 (List.range ops.size).all λj =>
  match ops[j]? with
  | some oj=>(oj.after.toList.all λe => !Region.binds .any e ||decide (e.on<j)) &&
   (List.range j).all λi=>match ops[i]? with
    |some oi=>juE E ops (masks.getD j 0) i oi oj
    |none=>false
  |none=>false
def jaU(E:Env)(ops:Array Oper)(j:Nat):Nat:=(ops.toList.take j).countP λo=>scOp E o.op
def jfd(E:Env)(ops:Array Oper)(masks:List Nat)(j m:Nat):Bool :=
 (List.range ops.size).all λi =>
  match ops[i]? with
  |some oi => !scOp E oi.op ||
   ((!(masks.getD j 0).testBit i ||decide (jaU E ops i<m)) && (!(masks.getD i 0).testBit j ||decide (m<=jaU E ops i)))
  |none=>true
section
variable (E:Env)(rec:Task->Option Res)
def jah(f:FuncId)(args:List V)(U:S):Option (V × S) :=
 match E.hook f with
 |some g=>(g args).map λv=>(v,U)
 | none =>
  if E.pure f then
   if(wargs args).all V.closed then
    match rec (.call f (wargs args) S.empty)with
    |some { ex:=.ret,vals:=[v],dfs:=[],st:=U' }=>(jaK U'.heap jak v).map λv'=>(v',U)
    |_=>none
   else none
  else
   match rec (.call f args U)with
   |some { ex:=.ret,vals:=[v],dfs:=[],st:=U' }=>some (v,U')
   |_=>none
def jeL(g:V)(args:List V)(U:S):Option (V × S) :=
 match g with
 | .func f first captured=>jah E rec f (first++args++captured) U
 | .yld l =>
  match rec (.round l args U)with
  |some { ex:=.ret,vals:=[v],dfs:=[],st:=U' }=>some (v,U')
  |_=>none
 |_=>none
def opV(mutb:Bool)(tmps:List V)(U:S)(op:Op):Option (V × S) :=
 match jbK E (jbv E tmps) op with
 |some v=>some (v,U)
 | none =>
  match jbh E (jbv E tmps) U op with
  |some v=>some (v,U)
  | none =>
   match op with
   | .call { callee:=.value g,args,.. } =>
    (jbv E tmps g).bind λgv=>(jb1 (jbv E tmps) args.toList).bind λas=>jeL E rec gv as U
   | .call { callee:=.invoke x name,args,.. } =>
    (jbv E tmps x).bind λxv=>(jgV E xv name).bind λp=>(jb1 (jbv E tmps) args.toList).bind λas=>jah E rec p.1 (p.2::as) U
   |op=>jbG E mutb (jbv E tmps) U op
def jdj(mutb:Bool)(ops:Array Oper):List Nat->List V->S->Option (List V × S)
 | [],tmps,U=>some (tmps,U)
 | i::is,tmps,U =>
  match ops[i]? with
  |none=>none
  | some o =>
   if Region.wanted o (jaG ops tmps)then
    match opV E rec mutb tmps U o.op with
    |some (v,U')=>jdj mutb ops is (putT tmps o.dst v) U'
    |none=>none
   else jdj mutb ops is (putT tmps o.dst (.tup [])) U
def dRun(mutb:Bool)(ops:Array Oper):List Oper->List V->S->Option (List (List V × V) × List S × List V × S)
 | [],tmps,U=>some ([],[],tmps,U)
 | o::r,tmps,U =>
  match (if Region.wanted o (jaG ops tmps)then opV E rec mutb tmps U o.op else some (.tup [],U))with
  |some (v,U') =>
   match dRun mutb ops r (putT tmps o.dst v) U' with
   |some (tr,ss,tf,Uf)=>some ((tmps,v)::tr,if scOp E o.op then U'::ss else ss,tf,Uf)
   |none=>none
  |none=>none
def jeq(ops:Array Oper)(masks:List Nat)(tr:List (List V × V))(ss:List S):Bool :=
 (List.range ops.size).all λj =>
  match ops[j]?,tr[j]? with
  | some o,some (tmps,v) =>
   scOp E o.op ||jby E o.op || !Region.wanted o (jaG ops tmps) ||(jbK E (jbv E tmps) o.op).isSome ||
   (List.range ss.length).all λm => !jfd E ops masks j m ||
    (match ss[m]? with
     |some U=>(match jbh E (jbv E tmps) U o.op with|some u=>u.beq v|none=>false)
     |none=>false)
  |_,_=>false
def jbl:Op->Bool
 | .alloc _=>true
 |_=>false
def jqC:Op->Bool
 | .store _ _ _=>true
 |_=>false
def jqD:Op->Bool
 | .load _ _=>true
 | .lookup _ _ _ _=>true
 | .convert _ _ _=>true
 |_=>false
def preL(E:Env):List Oper->Option (List AObj)
 | []=>some []
 |o::r =>
  match o.op with
  | .alloc t=>(jba E t).bind λz=>(preL E r).map λl=>.cells z.cells t::l
  |_=>preL E r
section
variable (E:Env)(rec:Task->Option Res)
def jf2(mutb:Bool)(ops:Array Oper)(N:Nat):List Oper->Nat->List V->S->Option (List (List V × V) × List V × S)
 | [],_,tmps,U=>some ([],tmps,U)
 | o::l,r,tmps,U =>
  match (if Region.wanted o (jaG ops tmps)then(if jbl o.op then some (.ptr (N+r) 0,U)else opV E rec mutb tmps U o.op)else some (.tup [],U))with
  |some (v,U') =>
   match jf2 mutb ops N l (if jbl o.op then r+1 else r) (putT tmps o.dst v) U' with
   |some (tr,tf,Uf)=>some ((tmps,v)::tr,tf,Uf)
   |none=>none
  |none=>none
def jti(ops:Array Oper)(masks:List Nat):Bool :=
 (List.range ops.size).all λj =>
  match ops[j]? with
  | some oj=>(oj.after.toList.all λe => !Region.binds .any e ||decide (e.on<j)) && (!jbl oj.op ||oj.guard.isNone) &&
   (List.range j).all λi=>match ops[i]? with
    |some oi=>(masks.getD j 0).testBit i ||oi.apart ops oj
    |none=>false
  |none=>false
def jcZ(masks:List Nat)(i c:Nat):Prop :=
 c.testBit i=false/\(∀i',(masks.getD i 0).testBit i'=true->i' ≠ i->c.testBit i'=true)/\∀i',(masks.getD i' 0).testBit i=true->c.testBit i'=false
def jog(mutb:Bool)(ops:Array Oper)(masks:List Nat)(k:Nat)(U Uf:S)(tr:List (List V × V))(St:Nat->S):Prop :=
 St 0=⟨U.heap++List.replicate k .resv,U.toks⟩/\(∀c,(∀i,i<ops.size->c.testBit i=true)->c<2^ops.size->St c=Uf) /\
 ∀ i o t v,ops[i]? = some o->tr[i]? = some (t,v)->∀c,c<2^ops.size->jcZ masks i c ->
  if Region.wanted o (jaG ops t)=true then
   (jbl o.op=true->∃n ty z,o.op=.alloc ty/\v=.ptr n 0/\(St c).heap[n]? = some .resv/\jba E ty=some z/\St (c |||2^i)=(St c).set n (.cells z.cells ty)) /\
   (jbl o.op=false->opV E rec mutb t (St c) o.op=some (v,St (c |||2^i)))
  else St (c |||2^i)=St c
open Classical in
noncomputable def jgw(mutb:Bool)(ops:Array Oper)(tmps:List V)(U:S):Option (List V × S) :=
 if jti ops (jat [] ops.toList)then
  match preL E ops.toList with
  |some l =>
   match jf2 E rec mutb ops U.heap.length ops.toList 0 tmps ⟨U.heap++l,U.toks⟩with
   |some (tr,tf,Uf)=>if ∃St,jog E rec mutb ops (jat [] ops.toList) l.length U Uf tr St then some (tf,Uf)else none
   |none=>none
  |none=>none
 else none
end
noncomputable def ja6(fn:FuncId)(rnd:Option Nat):Code->List V->List DE->S->Option Res
 | .skip,tmps,dfs,U=>some ⟨.normal,tmps,dfs,U⟩
 | .label _,tmps,dfs,U=>some ⟨.normal,tmps,dfs,U⟩
 | .exit id,tmps,dfs,U=>some ⟨.exit id,tmps,dfs,U⟩
 | .ret,tmps,dfs,U=>some ⟨.ret,tmps,dfs,U⟩
 | .seq a b,tmps,dfs,U =>
  match ja6 fn rnd a tmps dfs U with
  |some ⟨.normal,tmps,dfs,U⟩=>ja6 fn rnd b tmps dfs U
  |r=>r
 | .cond c a b,tmps,dfs,U =>
  match jbv E tmps c with
  |some (.bool true)=>ja6 fn rnd a tmps dfs U
  |some (.bool false)=>ja6 fn rnd b tmps dfs U
  |_=>none
 | .block id c,tmps,dfs,U =>
  match ja6 fn rnd c tmps dfs U with
  |some ⟨.exit i,tmps,dfs,U⟩=>some ⟨if i=id then .normal else .exit i,tmps,dfs,U⟩
  |r=>r
 | .loop c,tmps,dfs,U=>rec (.loop fn rnd c tmps dfs U)
 | .scope c,tmps,dfs,U=>ja6 fn rnd c tmps dfs U
 | .region id ops false,tmps,dfs,U=>(jdj E rec (E.mutb fn id) ops (List.range ops.size) tmps U).map λp=>⟨.normal,p.1,dfs,p.2⟩
 | .region id ops true,tmps,dfs,U =>
  if jcJ E ops (jat [] ops.toList)then
   match dRun E rec (E.mutb fn id) ops ops.toList tmps U with
   |some (tr,ss,tf,Uf)=>if jeq E ops (jat [] ops.toList) tr (U::ss)then some ⟨.normal,tf,dfs,Uf⟩else none
   |none=>none
  else(jgw E rec (E.mutb fn id) ops tmps U).map λp=>⟨.normal,p.1,dfs,p.2⟩
 | .rangeFunc f ps asg body,tmps,dfs,U =>
  match jbv E tmps f,rnd with
  | some g,none =>
   let l:=U.heap.length+1
   let U1:S:=⟨U.heap++[.defd true,.loop .ready none fn tmps ps asg body U.heap.length],U.toks⟩
   match (match g with
    | .func f first captured=>rec (.call f (first++[V.yld l]++captured) U1)
    |_=>none)with
   | some { ex:=.ret,vals:=[_],dfs:=[],st:=U2 } =>
    match U2.heap[l]? with
    |some (.loop st pend fn' tmps' ps' asg' body' dfr) =>
     if st=LoopState.busy then none else
     let U3:=U2.set l (.loop .exhausted pend fn' tmps' ps' asg' body' dfr)
     match pend with
     |none=>some ⟨.normal,tmps,DE.mark U.heap.length::dfs,U3⟩
     |some (.exit i)=>some ⟨.exit i,tmps,DE.mark U.heap.length::dfs,U3⟩
     |some .ret=>some ⟨.ret,tmps,DE.mark U.heap.length::dfs,U3⟩
     |_=>none
    |_=>none
   |_=>none
  |_,_=>none
 |_,_,_,_=>none
def resV(tmps:List V)(h:List AObj):List ResultVar->Option (List V)
 | []=>some []
 | .tmp t::r=>(resV tmps h r).map (tmps.getD t (.tup []) :: ·)
 | .cell a t::r=>(jaH E h t (tmps.getD a (.tup []))).bind λv=>(resV tmps h r).map (v :: ·)
def jaB:List V->V
 | [v]=>v
 |vs=>.tup vs
def jdk(h:List AObj):List DE->Option (List AObj)
 | []=>some h
 | .mark b::r =>
  match h[b]? with
  |some (.defd true)=>jdk (h.set b (.defd false)) r
  |_=>none
noncomputable def jf3(t:Task):Option Res :=
  match t with
  | .call f args U =>
    match E.P.funcs[f]? with
    | some fn =>
      match fn.body with
      | some body =>
        if fn.name = "runtime.NumGoroutine" then none else
        match ja6 E rec f none body (args++List.replicate (fn.ntmps-args.length) (.tup [])) [] U with
        |some ⟨.exit _,_,_,_⟩=>none
        | some ⟨_,tmps,dfs,U'⟩ =>
          match jdk U'.heap dfs with
          | some h =>
            match resV E tmps h fn.results.toList with
            |some vs=>some ⟨.ret,[jaB vs],[],⟨h,U'.toks⟩⟩
            |none=>none
          |none=>none
        |none=>none
      |none=>none
    |none=>none
  | .round l args U =>
    match U.heap[l]? with
    | some (.loop .ready none fn tmps ps asg body _) =>
      if args.length ≠ ps.size then none else
      match ja6 E rec fn (some l) asg ((ps.toList.zip args).foldl (λts (t,a)=>ts.set t a) tmps) [] U with
      | some ⟨.normal,tmps1,[],U1⟩ =>
        match U1.heap[l]? with
        | some (.loop .ready none fn1 tm1 ps1 as1 bo1 df1) =>
          match ja6 E rec fn (some l) body tmps1 [] (U1.set l (.loop .busy none fn1 tm1 ps1 as1 bo1 df1))with
          | some ⟨ex,_,[],U2⟩ =>
            match U2.heap[l]? with
            | some (.loop _ _ fn2 tm2 ps2 as2 bo2 df2) =>
              match ex with
              | .normal=>some ⟨.ret,[.bool true],[],U2.set l (.loop .ready none fn2 tm2 ps2 as2 bo2 df2)⟩
              | .ret=>some ⟨.ret,[.bool false],[],U2.set l (.loop .done (some .ret) fn2 tm2 ps2 as2 bo2 df2)⟩
              | .exit i=>some ⟨.ret,[.bool false],[],U2.set l (.loop .done (some (.exit i)) fn2 tm2 ps2 as2 bo2 df2)⟩
            |_=>none
          |_=>none
        |_=>none
      |_=>none
    |_=>none
  | .loop fn rnd c tmps dfs U =>
    match ja6 E rec fn rnd c tmps dfs U with
    |some ⟨.normal,tmps',dfs',U'⟩=>rec (.loop fn rnd c tmps' dfs' U')
    |r=>r
end
noncomputable def run(E:Env):Nat->Task->Option Res
 |0,_=>none
 |n+1,t=>jf3 E (run E n) t
open Go.RowKit (Below)
structure Ctx where
 base:Nat
 blk:Nat->Option Nat
 pin:Nat->Nat->Option Value
 tok:Nat->Nat->Option (Nat × Nat × Nat × Nat)
 siz:Nat->Option Nat
def jcs(O:Ctx)(cap:RCap)(a:Addr)(len c:Nat):Prop :=
 match cap with
 | .full=>c=len
 | .tok k e s=>∃b pos spare,O.tok k e=some (b,pos,spare,s)/\c=len+spare/\(spare=0\/(a=⟨b,pos-len*s,none⟩/\len*s<=pos))
 | .unk=>len<=c
def HRel(O:Ctx)(ex:HCap)(c off cap c':Nat):Prop :=
 match ex with
 | .exact=>c'=cap
 | .least=>True
 | .grow s=>(∃n,O.siz c=some n/\off+c'*s<=n)/\c'<=maxLen
 | .both s=>c'=cap/\∃n,O.siz c=some n/\off+c'*s<=n
def jmJ:Value->Bool
 | .bool _=>false
 |x=>x.oneCell'
theorem jmJ.one {x:Value}(h:jmJ x=true):x.oneCell'=true:=by cases x<;>first|exact h|(simp[jmJ]at h)
inductive VRel (O:Ctx):V->Value->Prop
 |bool (b:Bool):VRel O (.bool b) (.bool b)
 |int (k:IntKind) (n:Int):VRel O (.int k n) (.int k n)
 |str (x:ByteArray):VRel O (.str x.data.toList) (.string x)
 |ptr (b off c:Nat) (h:O.blk b=some c):VRel O (.ptr b off) (.pointer (some ⟨c,off,none⟩))
 |nilptr:VRel O .nilptr (.pointer none)
 | rptr (cells:List V) (a:Addr) (xs:Nat->Value) (hp:∀i,i<cells.length->a.spot=none/\O.pin a.block (a.off+i)=some (xs i))
   (hr:∀i (h:i<cells.length),VRel O cells[i] (xs i)):VRel O (.rptr cells) (.pointer (some a))
 |hsl (b off len cap:Nat) (ex:HCap) (c c':Nat) (h:O.blk b=some c) (hc:cap<=c'/\HRel O ex c off cap c'):VRel O (.hsl b off len cap ex) (.slice (some ⟨c,off,none⟩) len c')
 | row (cells:List V) (len:Nat) (cap:RCap) (a:Addr) (c:Nat) (xs:Nat->Value) (hp:∀i,i<cells.length->a.spot=none/\O.pin a.block (a.off+i)=some (xs i))
   (hr:∀i (h:i<cells.length),VRel O cells[i] (xs i)) (hc:jcs O cap a len c):VRel O (.row cells len cap) (.slice (some a) len c)
 |nilsl:VRel O .nilsl (.slice none 0 0)
 | func (f:FuncId) (fs cs:List V) (xs ys:Array Value) (hx:fs.length=xs.size) (hxr:∀i (h:i<fs.length) (h2:i<xs.size),VRel O fs[i] xs[i])
   (hy:cs.length=ys.size) (hyr:∀i (h:i<cs.length) (h2:i<ys.size),VRel O cs[i] ys[i]):VRel O (.func f fs cs) (.func (.func f) xs ys)
 |yld (l c:Nat) (h:O.blk l=some c):VRel O (.yld l) (.func (.yield c) #[] #[])
 |nilfn:VRel O .nilfn .nilFunc
 |iface (t:TypeId) (v:V) (x:Value) (h:VRel O v x):VRel O (.iface t v) (.iface t x)
 |nilif:VRel O .nilif .nilIface
 |agg (cs:List V) (xs:Array Value) (hl:cs.length=xs.size) (hr:∀i (h:i<cs.length) (h2:i<xs.size),VRel O cs[i] xs[i]):VRel O (.agg cs) (.agg xs)
 |tup (cs:List V) (xs:Array Value) (hl:cs.length=xs.size) (hr:∀i (h:i<cs.length) (h2:i<xs.size),VRel O cs[i] xs[i]):VRel O (.tup cs) (.tuple xs)
 |nilmap:VRel O .nilmap (.map none)
 |map (b c:Nat) (h:O.blk b=some c):VRel O (.map b) (.map (some c))
 |meth (name:String) (v:V) (x:Value) (h:VRel O v x):VRel O (.meth name v) (.func (.method name) #[x] #[])
 |any (x:Value) (h:jmJ x=true):VRel O .any x
structure LRel (O:Ctx) (vs:List V) (xs:Array Value):Prop where
 len:vs.length=xs.size
 rel:∀i (h:i<vs.length) (h2:i<xs.size),VRel O vs[i] xs[i]
structure Ctx.le (O O':Ctx):Prop where
 base:O'.base=O.base
 blk:∀b c,O.blk b=some c->O'.blk b=some c
 pin:∀b i x,O.pin b i=some x->O'.pin b i=some x
 tok:∀k e x,O.tok k e=some x->O'.tok k e=some x
 newpin:∀b i x,O'.pin b i=some x->O.pin b i=some x\/O.base<=b
 siz:∀c n,O.siz c=some n->O'.siz c=some n
theorem Ctx.le.refl(O:Ctx):O.le O:=⟨rfl,λ_ _ h=>h,λ_ _ _ h=>h,λ_ _ _ h=>h,λ_ _ _ h=>.inl h,λ_ _ h=>h⟩
theorem Ctx.le.trans {A B C:Ctx}(h:A.le B)(k:B.le C):A.le C :=
  ⟨k.base.trans h.base,λ_ _ e=>k.blk _ _ (h.blk _ _ e),λ_ _ _ e=>k.pin _ _ _ (h.pin _ _ _ e),λ_ _ _ e=>k.tok _ _ _ (h.tok _ _ _ e),
   λ_ _ _ e=>(k.newpin _ _ _ e).elim (λe=>h.newpin _ _ _ e) (λe=>.inr (h.base ▸ e)),λ_ _ e=>k.siz _ _ (h.siz _ _ e)⟩
theorem HRel.mono {O O':Ctx}(hle:∀c n,O.siz c=some n->O'.siz c=some n){ex:HCap}{c off cap c':Nat}(h:HRel O ex c off cap c'):HRel O' ex c off cap c':=by
 cases ex<;>first|exact h|exact⟨h.1.imp λn hn=>⟨hle _ _ hn.1,hn.2⟩,h.2⟩|exact⟨h.1,h.2.imp λn hn=>⟨hle _ _ hn.1,hn.2⟩⟩
theorem jcs.mono {O O':Ctx}(hle:∀k e x,O.tok k e=some x->O'.tok k e=some x){cap:RCap}{a:Addr}{len c:Nat}(h:jcs O cap a len c):jcs O' cap a len c:=by
 cases cap with
 |full=>exact h
 |unk=>exact h
 |tok k e s=>obtain⟨b,pos,spare,h1,h2⟩:=h;exact⟨b,pos,spare,hle _ _ _ h1,h2⟩
theorem VRel.mono {O O':Ctx}(hle:O.le O'){v:V}{x:Value}(h:VRel O v x):VRel O' v x:=by
 induction h with
 |bool b=>exact .bool b
 |int k n=>exact .int k n
 |str x=>exact .str x
 |ptr b off c h=>exact .ptr b off c (hle.blk _ _ h)
 |nilptr=>exact .nilptr
 |rptr cells a xs hp hr ih=>exact .rptr cells a xs (λi h=>⟨(hp i h).1,hle.pin _ _ _ (hp i h).2⟩) ih
 |hsl b off len cap ex c c' h hc=>exact .hsl b off len cap ex c c' (hle.blk _ _ h) ⟨hc.1,hc.2.mono hle.siz⟩
 |row cells len cap a c xs hp hr hc ih=>exact .row cells len cap a c xs (λi h=>⟨(hp i h).1,hle.pin _ _ _ (hp i h).2⟩) ih (hc.mono hle.tok)
 |nilsl=>exact .nilsl
 |func f fs cs xs ys hx hxr hy hyr ih1 ih2=>exact .func f fs cs xs ys hx ih1 hy ih2
 |yld l c h=>exact .yld l c (hle.blk _ _ h)
 |nilfn=>exact .nilfn
 |iface t v x h ih=>exact .iface t v x ih
 |nilif=>exact .nilif
 |agg cs xs hl hr ih=>exact .agg cs xs hl ih
 |tup cs xs hl hr ih=>exact .tup cs xs hl ih
 |nilmap=>exact .nilmap
 |map b c h=>exact .map b c (hle.blk _ _ h)
 |meth n v x h ih=>exact .meth n v x ih
 |any x h=>exact .any x h
theorem LRel.mono {O O':Ctx}(hle:O.le O'){vs:List V}{xs:Array Value}(h:LRel O vs xs):LRel O' vs xs :=
 ⟨h.len,λi a b=>(h.rel i a b).mono hle⟩
theorem LRel.nil(O:Ctx):LRel O [] #[]:=⟨rfl,λi h=>absurd h ae⟩
theorem LRel.getD {O:Ctx}{vs:List V}{xs:Array Value}(h:LRel O vs xs)(i:Nat):VRel O (vs.getD i (.tup [])) (xs.getD i undef):=by
 by_cases hi:i<vs.length
 ·have h2:i<xs.size:=h.len ▸ hi;have e1:vs.getD i (.tup [])=vs[i]:=by simp[List.getD,hi]
  have e2:xs.getD i undef=xs[i]:=by simp[Array.getD,h2]
  rw[e1,e2];exact h.rel i hi h2
 ·have h2:¬i<xs.size:=h.len ▸ hi;have e0:vs[i]? = none:=Qo aa;have e1:vs.getD i (.tup [])=.tup []:=by simp[List.getD,e0]
  have e2:xs.getD i undef=.tuple #[]:=by simp[Array.getD,h2,undef]
  rw[e1,e2];exact .tup [] #[] rfl (λi h=>absurd h ae)
theorem LRel.set {O:Ctx}{vs:List V}{xs:Array Value}(h:LRel O vs xs)(i:Nat){v:V}{x:Value}(hv:VRel O v x):LRel O (vs.set i v) (xs.setIfInBounds i x):=by
 refine⟨by simp[h.len],λj a b => ?_⟩;rw[List.getElem_set,Array.getElem_setIfInBounds (by simpa using b)];split
 ·exact hv
 ·exact h.rel j _ _
theorem LRel.get? {O:Ctx}{vs:List V}{xs:Array Value}(h:LRel O vs xs){i:Nat}{v:V}(hv:vs[i]? = some v):∃x,xs[i]? = some x/\VRel O v x:=by
 obtain⟨hi,rfl⟩:=K4.1 hv;have h2:i<xs.size:=h.len ▸ hi;exact⟨xs[i],by simp[h2],h.rel i hi h2⟩
theorem LRel.append {O:Ctx}{vs us:List V}{xs ys:Array Value}(h:LRel O vs xs)(k:LRel O us ys):LRel O (vs++us) (xs++ys):=by
 refine⟨by simp[h.len,k.len],λi a b => ?_⟩;have hl:=h.len;rw[Vm,Array.getElem_append];by_cases hi:i<vs.length
 ·rw[dif_pos hi,dif_pos aa];exact h.rel i _ _
 ·rw[dif_neg hi,dif_neg aa];have:=k.rel (i-vs.length) (by simp at a;omega) (by simp at b;omega);simpa[hl]using this
theorem LRel.replicate {O:Ctx}(n:Nat){v:V}{x:Value}(hv:VRel O v x):LRel O (List.replicate n v) (Array.replicate n x) :=
 ⟨ae,λi a b=>by simpa using hv⟩
theorem LRel.cons {O:Ctx}{v:V}{vs:List V}{x:Value}{xs:Array Value}(hv:VRel O v x)(h:LRel O vs xs):LRel O (v::vs) (#[x]++xs):=by
 have:=LRel.append (O:=O) (vs:=[v]) (xs := #[x]) ⟨rfl,λi a b=>by
  have:i=0:=by simp at a;omega
  subst this;exact hv⟩ h
 simpa using this
theorem LRel.one {O:Ctx}{v:V}{x:Value}(hv:VRel O v x):LRel O [v] #[x]:=by simpa using LRel.cons hv (LRel.nil O)
def ORel(O:Ctx):AObj->Obj->Prop
 | .cells cs t,.cells xs t' f=>t=t'/\f=(0,0)/\cs.length<=xs.size/\∀i (h:i<cs.length) (h2:i<xs.size),VRel O cs[i] xs[i]
 | .loop st pend fn tmps ps asg body dfr,.loop r=>r.state=st/\r.pending=pend/\r.fn=fn/\LRel O tmps r.tmps/\r.params=ps/\r.assign=asg/\r.body=body/\O.blk dfr=some r.defers
 | .defd true,.deferred (some [])=>True
 | .defd false,.deferred none=>True
 | .iter s pos,.stringIter x p=>x.data.toList=s/\p=pos
 | .ro cs t,.cells xs t' f=>t=t'/\f=f/\cs.length<=xs.size/\∀i (h:i<cs.length) (h2:i<xs.size),VRel O cs[i] xs[i]
 | .map es clock,.map xs clock'=>clock=clock'/\es.length=xs.size/\∀i (h:i<es.length) (h2:i<xs.size),VRel O es[i].1 xs[i].key/\VRel O es[i].2.1 xs[i].val/\es[i].2.2=xs[i].born
 | .dead,_=>True
 |_,_=>False
theorem ORel.mono {O O':Ctx}(hle:O.le O'){a:AObj}{o:Obj}(h:ORel O a o):ORel O' a o:=by
 cases a with
 |cells cs t =>
  cases o<;>simp only[ORel]at h ⊢;exact⟨h.1,h.2.1,h.2.2.1,λi a b=>(h.2.2.2 i a b).mono hle⟩
 |loop st pend fn tmps ps asg body dfr =>
  cases o<;>simp only[ORel]at h ⊢;obtain⟨h1,h2,h3,h4,h5,h6,h7,h8⟩:=h;exact⟨h1,h2,h3,h4.mono hle,h5,h6,h7,hle.blk _ _ h8⟩
 |defd b =>
  cases b<;>cases o<;>first|exact h|(rename_i c;cases c<;>first|exact h|(rename_i l;cases l<;>exact h))
 |iter s pos=>cases o<;>simp only[ORel]at h ⊢;exact h
 |ro cs t =>
  cases o<;>simp only[ORel]at h ⊢;exact⟨h.1,h.2.1,h.2.2.1,λi a b=>(h.2.2.2 i a b).mono hle⟩
 |dead=>cases o<;>trivial
 |resv=>cases o<;>exact h
 |map es clock =>
  cases o<;>simp only[ORel]at h ⊢;exact⟨h.1,h.2.1,λi a b=>⟨(h.2.2 i a b).1.mono hle,(h.2.2 i a b).2.1.mono hle,(h.2.2 i a b).2.2⟩⟩
structure WRel (O:Ctx) (U:S) (w:World):Prop where
 size:O.base<=w.heap.size
 pins:∀b i x,O.pin b i=some x->w.cell? ⟨b,i,none⟩=some x
 live:∀a o,U.heap[a]? = some o->(o=.resv/\O.blk a=none)\/∃c ob,O.blk a=some c/\w.heap[c]? = some ob/\ORel O o ob/\O.base<=c/\(o.isRo=false->∀i,O.pin c i=none)
 dom:∀a c,O.blk a=some c->a<U.heap.length
 inj:∀a a' c,O.blk a=some c->O.blk a'=some c->(∀o,U.heap[a]? = some o->o ≠ .dead)->(∀o,U.heap[a']? = some o->o ≠ .dead)->a=a'
 toks:∀k e,U.toks[k]? = some e->∃b pos spare s t xs,O.tok k e=some (b,pos,spare,s)/\w.heap[b]? = some (.cells xs t (0,0))/\xs.size=pos+spare*s/\O.base<=b /\
  (∀i,pos<=i->O.pin b i=none)/\∀a,O.blk a ≠ some b
 tokdom:∀k e x,O.tok k e=some x->∃e',U.toks[k]? = some e'/\e<=e'
 tokinj:∀k k' e e' b p q,U.toks[k]? = some e->U.toks[k']? = some e'->O.tok k e=some (b,p)->O.tok k' e'=some (b,q)->k=k'
 sizes:∀c n,O.siz c=some n->∃xs t f,w.heap[c]? = some (.cells xs t f)/\xs.size=n
structure Moved (O O':Ctx) (U':S) (w w':World):Prop where
 le:O.le O'
 rel:WRel O' U' w'
 below:Below O.base w w'
theorem Moved.refl {O:Ctx}{U:S}{w:World}(h:WRel O U w):Moved O O U w w:=⟨Ctx.le.refl O,h,Below.refl _ _⟩
theorem Moved.trans {A B C:Ctx}{U U':S}{w w' w'':World}(h:Moved A B U w w')(k:Moved B C U' w' w''):Moved A C U' w w'' :=
 ⟨h.le.trans k.le,k.rel,h.below.trans (h.le.base ▸ k.below)⟩
section
variable {P:Program}{w:World}{O:Ctx}
theorem jag {t:TypeId}{d:TypeDesc}(h:P.underlying t=some d):(underlying t).run P w=.ok d w:=by simp[underlying,h]
theorem jaQ {t:TypeId}{s:Nat}(h:(P.info? t).map (·.size)=some s):(sizeOf t).run P w=.ok s w:=by
 cases hi:P.info? t with
 |none=>simp[hi]at h
 |some i=>simp[hi]at h;simp[sizeOf,typeInfo,hi,h]
theorem jfI {E:Env}{t:TypeId}{g:Bool}(h:aggT E t=some g):(isAgg t).run E.P w=.ok g w:=by
 unfold aggT at h;cases hu:E.P.underlying t with
 |none=>simp[hu]at h
 |some d=>rw[hu]at h;cases d<;>simp at h<;>subst h<;>simp[isAgg,underlying,hu]
theorem jaW {a:Addr}{n:Nat}(h:a.spot=none):a.add n=⟨a.block,a.off+n,none⟩:=by
 cases a;simp at h;subst h;unfold Addr.add;split<;>simp_all
theorem jf5(a:Addr)(n:Nat):(a.add n).block=a.block:=by unfold Addr.add;split<;>rfl
theorem jhu(a:Addr)(n:Nat):(a.add n).off=a.off+n:=by unfold Addr.add;split<;>simp_all
theorem jf6 {a:Addr}{n:Nat}(h:a.spot=none):(a.add n).spot=none:=by rw[jaW h]
theorem VRel.int_inv {k:IntKind}{n:Int}{x:Value}(h:VRel O (.int k n) x):x=.int k n:=by cases h;rfl
theorem VRel.bool_inv {b:Bool}{x:Value}(h:VRel O (.bool b) x):x=.bool b:=by cases h;rfl
theorem VRel.str_inv {s:List UInt8}{x:Value}(h:VRel O (.str s) x):∃b:ByteArray,x=.string b/\b.data.toList=s:=by cases h;exact⟨_,rfl,rfl⟩
theorem VRel.agg_inv {s:List V}{x:Value}(h:VRel O (.agg s) x):∃xs,x=.agg xs/\LRel O s xs:=by cases h;exact⟨_,rfl,‹_›,‹_›⟩
theorem VRel.tup_inv {s:List V}{x:Value}(h:VRel O (.tup s) x):∃xs,x=.tuple xs/\LRel O s xs:=by cases h;exact⟨_,rfl,‹_›,‹_›⟩
theorem VRel.mkStr {s:List UInt8}{b:ByteArray}(h:b.data.toList=s):VRel O (.str s) (.string b):=by subst h;exact .str b
theorem VRel.mkAgg {s:List V}{xs:Array Value}(h:LRel O s xs):VRel O (.agg s) (.agg xs):=.agg _ _ h.len h.rel
theorem VRel.mkTup {s:List V}{xs:Array Value}(h:LRel O s xs):VRel O (.tup s) (.tuple xs):=.tup _ _ h.len h.rel
theorem LRel.mkList {vs:List V}{xs:List Value}(hl:vs.length=xs.length)(hr:∀i (h:i<vs.length) (h2:i<xs.length),VRel O vs[i] xs[i]):LRel O vs xs.toArray :=
 ⟨by simpa using hl,λi a b=>by simpa using hr i a (by simpa using b)⟩
theorem VRel.cells {v:V}{x:Value}(h:VRel O v x):LRel O v.cells x.cells:=by
 cases h with
 |agg cs xs hl hr=>exact⟨hl,hr⟩
 |bool=>exact LRel.one (.bool _)
 |int=>exact LRel.one (.int _ _)
 |str=>exact LRel.one (.str _)
 |ptr b off c h=>exact LRel.one (.ptr _ _ _ h)
 |nilptr=>exact LRel.one .nilptr
 |rptr cells a xs hp hr=>exact LRel.one (.rptr _ _ xs hp hr)
 |hsl b off len cap ex c c' h hc=>exact LRel.one (.hsl _ _ _ _ _ _ _ h hc)
 |row cells len cap a c xs hp hr hc=>exact LRel.one (.row _ _ _ _ _ xs hp hr hc)
 |nilsl=>exact LRel.one .nilsl
 |func f fs cs xs ys a b c d=>exact LRel.one (.func _ _ _ _ _ a b c d)
 |yld l c h=>exact LRel.one (.yld _ _ h)
 |nilfn=>exact LRel.one .nilfn
 |iface t v x h=>exact LRel.one (.iface _ _ _ h)
 |nilif=>exact LRel.one .nilif
 |tup cs xs a b=>exact LRel.one (.tup _ _ a b)
 |nilmap=>exact LRel.one .nilmap
 |map b c h=>exact LRel.one (.map b c h)
 |meth n v x h=>exact LRel.one (.meth n v x h)
 |any x h =>
  have h1:=jmJ.one h;have:x.cells = #[x]:=by cases x<;>first|rfl|(simp[Value.oneCell']at h1)
  rw[this];exact LRel.one (.any x h)
theorem VRel.isCell {v:V}{x:Value}(h:VRel O v x):x.oneCell'=v.isCell:=by cases h<;>first|rfl|exact jmJ.one ‹_›
theorem jjA {x:Value}{v:V}(h:jlf x=some v):VRel O v x:=by
 unfold jlf at h;split at h<;>first|(simp at h;done)|(simp at h;subst h;first|exact .bool _|exact .int _ _|exact .str _|exact .nilptr|exact .nilsl|exact .nilfn|exact .nilif|exact .nilmap)
theorem jmK {l:List Value}{vs:List V}(h:l.mapM jlf=some vs):LRel O vs l.toArray:=by
 induction l generalizing vs with
 |nil=>simp at h;subst h;exact LRel.nil O
 |cons x l ih =>
  simp only[Xx,Option.bind_eq_bind,Ko,Option.pure_def,Ki]at h;obtain⟨v,hv,us,hu,rfl⟩:=h;simpa using LRel.cons (jjA hv) (ih hu)
theorem jie {x:Value}{v:V}(h:jgv x=some v):VRel O v x:=by
 unfold jgv at h;split at h
 ·simp only[Kv]at h;obtain⟨us,hu,rfl⟩:=h;have:=jmK (O:=O) hu;exact VRel.mkAgg (by simpa using this)
 ·exact jjA h
theorem jcp {x:V}{y:Value}{top h:Nat}{d:Nat}{code:BoundsCode}(hx:VRel O x y)(hb:ja0 (some x) d top=some h) :
  ∀top',top<=top'->(Instr.sliceBound y top' code).run P w=.ok h w:=by
 intro top' ht;cases x<;>simp only[ja0]at hb<;>try (simp at hb;done)
 rename_i k i;obtain rfl:=hx.int_inv;split at hb
 ·rename_i hc;simp at hb;subst hb;have:(0<=i/\i<=(top':Int)):=⟨hc.1,aa⟩;simp[Instr.sliceBound,asIntOf,this]
 ·simp at hb
theorem jbA {isSl:Bool}{lo hi:Option V}{lo' hi':Option Value}{top len cap h l:Nat}(hlo:∀x,lo=some x->∃y,lo'=some y/\VRel O x y)(hlon:lo=none->lo'=none)
  (hhi:∀x,hi=some x->∃y,hi'=some y/\VRel O x y) (hhin:hi=none->hi'=none) (ht:top<=cap)
  (h1:ja0 hi len top=some h) (h2:ja0 lo 0 h=some l):(Instr.sliceBounds isSl len cap lo' hi' none).run P w=.ok (l,h,cap) w:=by
 cases hi with
 |none =>
  rw[hhin rfl];simp[ja0]at h1;subst h1;cases lo with
  |none=>rw[hlon rfl];simp[ja0]at h2;subst h2;simp[Instr.sliceBounds]
  |some x=>obtain⟨y,rfl,hr⟩:=hlo x rfl;simp[Instr.sliceBounds,jcp hr h2 len (Kw _)]
 |some x =>
  obtain⟨y,rfl,hr⟩:=hhi x rfl;have e1:∀code,(Instr.sliceBound (code:=code) y cap).run P w=.ok h w:=λ_=>jcp hr h1 cap ht
  cases lo with
  |none=>rw[hlon rfl];simp[ja0]at h2;subst h2;simp[Instr.sliceBounds,e1]
  |some x2=>obtain⟨y2,rfl,hr2⟩:=hlo x2 rfl;simp[Instr.sliceBounds,e1,jcp hr2 h2 h (Kw _)]
theorem jhI {isSl:Bool}{lo:Option V}{x m:V}{lo':Option Value}{y n:Value}{top len cap mm h l:Nat}(hlo:∀x,lo=some x->∃y,lo'=some y/\VRel O x y)(hlon:lo=none->lo'=none)
  (hx:VRel O x y) (hm:VRel O m n) (ht:top<=cap) (h0:ja0 (some m) 0 top=some mm)
  (h1:ja0 (some x) 0 mm=some h) (h2:ja0 lo 0 h=some l):(Instr.sliceBounds isSl len cap lo' (some y) (some n)).run P w=.ok (l,h,mm) w:=by
 have e0:∀code,(Instr.sliceBound (code:=code) n cap).run P w=.ok mm w:=λ_=>jcp hm h0 cap ht
 have e1:∀code,(Instr.sliceBound (code:=code) y mm).run P w=.ok h w:=λ_=>jcp hx h1 mm (Kw _)
 cases lo with
 |none=>rw[hlon rfl];simp[ja0]at h2;subst h2;simp[Instr.sliceBounds,e0,e1]
 |some x2=>obtain⟨y2,rfl,hr2⟩:=hlo x2 rfl;simp[Instr.sliceBounds,e0,e1,jcp hr2 h2 h (Kw _)]
theorem jb3 {x:Option V}{d top h:Nat}(hb:ja0 x d top=some h)(hd:d<=top):h<=top:=by
 unfold ja0 at hb;split at hb
 ·simp at hb;omega
 ·split at hb
  ·simp at hb;omega
  ·simp at hb
 ·simp at hb
theorem jeM {cells:List V}{a:Addr}(n:Nat)(h:VRel O (.rptr cells) (.pointer (some a))):VRel O (.rptr (cells.drop n)) (.pointer (some (a.add n))):=by
 cases h with
 | rptr _ _ xs hp hr =>
  refine .rptr _ _ (λi=>xs (n+i)) (λi hi => ?_) (λi hi => ?_)
  ·simp at hi;have:=hp (n+i) aa;exact⟨jf6 this.1,by rw[jf5,jhu,Vk];exact this.2⟩
  ·simp at hi;have:=hr (n+i) aa;simpa using this
end
section
variable {P:Program}{w:World}{O:Ctx}
theorem jgg {cells:List V}{len:Nat}{cap:RCap}{a:Addr}{c:Nat}(h:VRel O (.row cells len cap) (.slice (some a) len c))(l n len' c':Nat)(cap':RCap)(a':Addr)
  (ha:∀i,i<((cells.drop l).take n).length->a'=a.add l) (hc:jcs O cap' a' len' c'):VRel O (.row ((cells.drop l).take n) len' cap') (.slice (some a') len' c'):=by
 cases h with
 | row _ _ _ _ _ xs hp hr hcap =>
  refine .row _ _ _ _ _ (λi=>xs (l+i)) (λi hi => ?_) (λi hi => ?_) hc
  ·have ea:=ha i hi;subst ea;simp at hi;have:=hp (l+i) aa;exact⟨jf6 this.1,by rw[jf5,jhu,Vk];exact this.2⟩
  ·simp at hi;have:=hr (l+i) aa;simpa using this
theorem VRel.row_inv {cells:List V}{len:Nat}{cap:RCap}{x:Value}(h:VRel O (.row cells len cap) x):∃a c,x=.slice (some a) len c/\jcs O cap a len c/\len<=c:=by
 cases h with
 |row _ _ _ a c xs hp hr hc =>
  refine⟨a,c,rfl,hc,?_⟩;cases cap with
  |full=>exact Vc hc.symm
  |unk=>exact hc
  |tok k e s=>obtain⟨b,pos,spare,h1,h2,h3⟩:=hc;omega
theorem jva {cap:RCap}{a:Addr}{len c l s:Nat}(h:jcs O cap a len c)(hlc:len<=c)(hl:l<=len) :
  jcs O (jjy s cap) (if c=l then a else a.add (l*s)) (len-l) (c-l):=by
 cases cap with
 |full=>simp only[jcs,jjy]at h ⊢;omega
 |unk=>simp only[jcs,jjy]at h ⊢;omega
 | tok k e s' =>
  simp only[jjy];split
  ·rename_i hs;subst hs;obtain⟨b,pos,spare,h1,h2,h3⟩:=h;refine⟨b,pos,spare,h1,aa,?_⟩
   rcases h3 with h3|⟨h3,h4⟩
   ·exact .inl h3
   ·by_cases h0:spare=0
    ·exact .inl h0
    ·refine .inr ?_;have hle:l*s'<=len*s':=Jc _ hl;rw[Ke aa,h3,jaW rfl];refine⟨?_,?_⟩
     ·simp only[Addr.mk.injEq,true_and,and_true];rw[Um];omega
     ·rw[Um];omega
  ·simp only[jcs];omega
theorem jif {cells:List V}{len:Nat}{a:Addr}{c l s n:Nat}(hlc:len<=c)(hl:l<=len)(hn:n<=(len-l)*s) :
  ∀i,i<((cells.drop (l*s)).take n).length->(if c=l then a else a.add (l*s))=a.add (l*s):=by
 intro i hi;split
 ·rename_i hcl;have h0:len-l=0:=aa;rw[h0]at hn;simp at hi hn;omega
 ·rfl
theorem jmL {t:TypeId}{x:Value}{s:List UInt8}{v:V}{lo hi:Option V}{lo' hi':Option Value}{k:Nat}(hu:P.underlying t=some .string)
  (hx:VRel O (.str s) x) (hlo:∀x,lo=some x->∃y,lo'=some y/\VRel O x y) (hlon:lo=none->lo'=none)
  (hhi:∀x,hi=some x->∃y,hi'=some y/\VRel O x y) (hhin:hi=none->hi'=none) (h:jcM k (.str s) lo hi none=some v) :
  ∃y,(Instr.sliceAt t x lo' hi' none).run P w=.ok y w/\VRel O v y:=by
 obtain⟨b,rfl,hb⟩:=hx.str_inv;subst hb;simp only[jcM]at h;split at h
 ·rename_i hh h1;split at h
  ·rename_i l h2;simp at h;subst h;have hsz:b.data.toList.length=b.size:=by rw[Jm];rfl
   rw[hsz]at h1;refine⟨.string (b.extract l hh),?_,VRel.mkStr (by rw[Lib.extract_data])⟩;simp[Instr.sliceAt,Instr.slice,jag hu,jbA (P:=P) (w:=w) (isSl:=false) hlo hlon hhi hhin (Kw _) h1 h2]
  ·simp at h
 ·simp at h
theorem jko {t e:TypeId}{x:Value}{u v:V}{s:Nat}{lo hi mx:Option V}{lo' hi' mx':Option Value}(hu:P.underlying t=some (.slice e))(hs:(P.info? e).map (·.size)=some s)
  (hx:VRel O u x) (hstr:∀b,u ≠ .str b) (hlo:∀x,lo=some x->∃y,lo'=some y/\VRel O x y) (hlon:lo=none->lo'=none)
  (hhi:∀x,hi=some x->∃y,hi'=some y/\VRel O x y) (hhin:hi=none->hi'=none) (hmx:∀x,mx=some x->∃y,mx'=some y/\VRel O x y) (hmxn:mx=none->mx'=none)
  (h:jcM s u lo hi mx=some v):∃y,(Instr.sliceAt t x lo' hi' mx').run P w=.ok y w/\VRel O v y:=by
 unfold jcM at h;split at h
 ·exact absurd rfl (hstr _)
 ·-- nil
  cases hx;rw[hmxn rfl];split at h
  ·rename_i hh h1;split at h
   ·rename_i l h2;simp at h;subst h;have e1:hh=0:=by have:=jb3 h1 (Kw _);omega
    subst e1;have e2:l=0:=by have:=jb3 h2 (Kw _);omega
    subst e2;refine⟨.slice none 0 0,?_,.nilsl⟩;simp[Instr.sliceAt,Instr.slice,jag hu,jaQ hs,jbA (P:=P) (w:=w) (isSl:=true) (len:=0) (cap:=0) hlo hlon hhi hhin (Kw _) h1 h2]
   ·simp at h
  ·simp at h
 ·-- a row
  rename_i cells len cap;rw[hmxn rfl];obtain⟨a,c,rfl,hcap,hlc⟩:=hx.row_inv;split at h
  ·rename_i hh h1;split at h
   ·rename_i l h2;simp at h;subst h;have b1:=jb3 h1 (Kw _);have b2:=jb3 h2 (Qm _);refine⟨.slice (if c=l then some a else(some a).map (·.add (l*s))) (hh-l) (c-l),?_,?_⟩
    ·simp[Instr.sliceAt,Instr.slice,jag hu,jaQ hs,jbA (P:=P) (w:=w) (isSl:=true) (len:=len) (cap:=c) hlo hlon hhi hhin hlc h1 h2]
    ·have e:(if c=l then some a else(some a).map (·.add (l*s)))=some (if c=l then a else a.add (l*s)):=by split<;>rfl
     rw[e];refine jgg hx (l*s) _ _ _ _ _ (jif hlc aa (Jc _ aa)) ?_;split
     ·rename_i hhl;subst hhl;exact jva hcap hlc b2
     ·simp only[jcs];omega
   ·simp at h
  ·simp at h
 ·-- a row with a third index
  rename_i cells len cap m;obtain⟨m',rfl,hm⟩:=hmx _ rfl;obtain⟨a,c,rfl,hcap,hlc⟩:=hx.row_inv;split at h
  ·rename_i mm h0;split at h
   ·rename_i hv;obtain⟨hv',rfl,hhv⟩:=hhi _ rfl;split at h
    ·rename_i hh h1;split at h
     ·rename_i l h2;simp at h;subst h;have b0:=jb3 h0 (Qm _);have b1:=jb3 h1 (Qm _);have b2:=jb3 h2 (Qm _);refine⟨.slice (if mm=l then some a else(some a).map (·.add (l*s))) (hh-l) (mm-l),?_,?_⟩
      ·simp[Instr.sliceAt,Instr.slice,jag hu,jaQ hs,jhI (P:=P) (w:=w) (isSl:=true) (len:=len) (cap:=c) hlo hlon hhv hm hlc h0 h1 h2]
      ·have e:(if mm=l then some a else(some a).map (·.add (l*s)))=some (if mm=l then a else a.add (l*s)):=by split<;>rfl
       rw[e];refine jgg hx (l*s) _ _ _ _ _ ?_ ?_
       ·intro i hi;split
        ·rename_i hml;have:hh=l:=aa;subst this;simp at hi
        ·rfl
       ·split
        ·simp only[jcs];omega
        ·simp only[jcs];omega
     ·simp at h
    ·simp at h
   ·simp at h
  ·simp at h
 ·-- memory of the call's own
  rename_i b off len cap;rw[hmxn rfl];cases hx with
  | hsl _ _ _ _ _ c c' hblk hc =>
   have ec:c'=cap:=hc.2;subst ec;split at h
   ·rename_i hh h1;split at h
    ·rename_i l h2;simp at h;subst h;have b2:=jb3 h2 (Qm _);refine⟨.slice (if c'=l then some ⟨c,off,none⟩else(some ⟨c,off,none⟩:Option Addr).map (·.add (l*s))) (hh-l) (c'-l),?_,?_⟩
     ·simp[Instr.sliceAt,Instr.slice,jag hu,jaQ hs,jbA (P:=P) (w:=w) (isSl:=true) (len:=len) (cap:=c') hlo hlon hhi hhin (Kw _) h1 h2]
     ·have e:(if c'=l then some ⟨c,off,none⟩else(some ⟨c,off,none⟩:Option Addr).map (·.add (l*s)))=some ⟨c,if l=c' then off else off+l*s,none⟩:=by
       by_cases hl:c'=l
       ·rw[Kg hl,Kg hl.symm]
       ·rw[Ke hl,Ke (λe=>hl e.symm)];simp[jaW]
      rw[e];exact .hsl _ _ _ _ _ _ _ hblk ⟨Kw _,rfl⟩
    ·simp at h
   ·simp at h
 ·-- memory of the call's own,of which it is not known where it ends
  rename_i b off len cap ex hnx;rw[hmxn rfl];cases hx with
  | hsl _ _ _ _ _ c c' hblk hc =>
   have ec:cap<=c':=hc.1;split at h
   ·rename_i hh h1;split at h
    ·rename_i l h2;split at h
     ·rename_i hl;simp at h;subst h;have b2:=jb3 h2 (Qm _);refine⟨.slice (if c'=l then some ⟨c,off,none⟩else(some ⟨c,off,none⟩:Option Addr).map (·.add (l*s))) (hh-l) (c'-l),?_,?_⟩
      ·simp[Instr.sliceAt,Instr.slice,jag hu,jaQ hs,jbA (P:=P) (w:=w) (isSl:=true) (len:=len) (cap:=c') hlo hlon hhi hhin ec h1 h2]
      ·have e:(if c'=l then some ⟨c,off,none⟩else(some ⟨c,off,none⟩:Option Addr).map (·.add (l*s)))=some ⟨c,off+l*s,none⟩:=by
        by_cases hl2:c'=l
        ·have h0:l=0:=by omega
         rw[Kg hl2,h0];simp
        ·rw[Ke hl2];simp[jaW]
       rw[e];refine .hsl _ _ _ _ _ _ _ hblk ⟨aa,?_⟩;cases ex with
       |exact=>exact trivial
       |least=>exact trivial
       | grow s' =>
        simp only[HCap.cut];split
        ·rename_i es;subst es;obtain⟨⟨n2,h2,h2n⟩,h2m⟩:(∃n,O.siz c=some n/\off+c'*s'<=n)/\c'<=maxLen:=hc.2
         have h3:off+l*s'+(c'-l)*s'=off+c'*s':=by
          have:l<=c':=aa;rw[Um];have:=Jc s' this;omega
         simp only[HRel];rw[h3];exact⟨⟨n2,h2,h2n⟩,aa⟩
        ·exact trivial
       | both s' =>
        simp only[HCap.cut];split
        ·rename_i es;subst es;obtain⟨hce,n2,h2,h2n⟩:c'=cap/\∃n,O.siz c=some n/\off+c'*s'<=n:=hc.2
         have h3:off+l*s'+(c'-l)*s'=off+c'*s':=by
          have:l<=c':=aa;rw[Um];have:=Jc s' this;omega
         exact⟨aa,n2,h2,by rw[h3];exact h2n⟩
        ·exact trivial
     ·rename_i hl;simp at h;obtain⟨hhl,rfl⟩:=h;refine⟨.slice (if c'=l then some ⟨c,off,none⟩else(some ⟨c,off,none⟩:Option Addr).map (·.add (l*s))) (hh-l) (c'-l),?_,?_⟩
      ·simp[Instr.sliceAt,Instr.slice,jag hu,jaQ hs,jbA (P:=P) (w:=w) (isSl:=true) (len:=len) (cap:=c') hlo hlon hhi hhin ec h1 h2]
      ·have e0:hh-l=0:=by omega
       rw[e0];split
       ·exact .row [] 0 .unk _ _ (λ_=>undef) (λi hi=>by simp at hi) (λi hi=>by simp at hi) (by simp[jcs])
       ·exact .row [] 0 .unk _ _ (λ_=>undef) (λi hi=>by simp at hi) (λi hi=>by simp at hi) (by simp[jcs])
    ·simp at h
   ·simp at h
 ·simp at h
theorem jmM {t e:TypeId}{n:Nat}{x:Value}{u v:V}{s:Nat}{lo hi mx:Option V}{lo' hi' mx':Option Value}(hu:P.underlying t=some (.array n e))(hs:(P.info? e).map (·.size)=some s)
  (hx:VRel O u x) (hlo:∀x,lo=some x->∃y,lo'=some y/\VRel O x y) (hlon:lo=none->lo'=none)
  (hhi:∀x,hi=some x->∃y,hi'=some y/\VRel O x y) (hhin:hi=none->hi'=none) (hmxn:mx=none->mx'=none)
  (h:jfb n s u lo hi mx=some v):∃y,(Instr.sliceAt t x lo' hi' mx').run P w=.ok y w/\VRel O v y:=by
 unfold jfb at h;split at h
 ·rename_i cells;rw[hmxn rfl];split at h
  ·rename_i hh h1;split at h
   ·rename_i l h2;simp at h;subst h;have b1:=jb3 h1 (Kw _);have b2:=jb3 h2 (Qm _);cases hx with
    | rptr _ a xs hp hr =>
     refine⟨.slice (some (if n=l then a else a.add (l*s))) (hh-l) (n-l),?_,?_⟩
     ·simp[Instr.sliceAt,Instr.sureAddr,jag hu,jaQ hs,jbA (P:=P) (w:=w) (isSl:=false) (len:=n) (cap:=n) hlo hlon hhi hhin (Kw _) h1 h2]
     ·have hrow:VRel O (.row cells n .full) (.slice (some a) n n):=.row cells n .full a n xs hp hr rfl;refine jgg hrow (l*s) _ _ _ _ _ (λi hi => ?_) ?_
      ·have hne:n ≠ l:=by
        intro e;have:hh-l=0:=aa;simp[this]at hi
       rw[Ke hne]
      ·split
       ·rename_i hhl;subst hhl;rfl
       ·show hh-l<=n-l;omega
   ·simp at h
  ·simp at h
 ·rename_i b off;rw[hmxn rfl];split at h
  ·rename_i hh h1;split at h
   ·rename_i l h2;simp at h;subst h;have b1:=jb3 h1 (Kw _);have b2:=jb3 h2 (Qm _);cases hx with
    | ptr _ _ c hc =>
     refine⟨.slice (some (if n=l then⟨c,off,none⟩else(⟨c,off,none⟩:Addr).add (l*s))) (hh-l) (n-l),?_,?_⟩
     ·simp[Instr.sliceAt,Instr.sureAddr,jag hu,jaQ hs,jbA (P:=P) (w:=w) (isSl:=false) (len:=n) (cap:=n) hlo hlon hhi hhin (Kw _) h1 h2]
     ·have e:(if n=l then(⟨c,off,none⟩:Addr)else(⟨c,off,none⟩:Addr).add (l*s))=⟨c,if n=l then off else off+l*s,none⟩:=by
       split
       ·rfl
       ·rw[jaW rfl]
      rw[e];exact .hsl b _ _ _ .exact c (n-l) hc ⟨Kw _,rfl⟩
   ·simp at h
  ·simp at h
 ·simp at h
end
section
variable {P:Program}{w:World}{O:Ctx}
theorem jli {cells:List V}{len:Nat}{cap:RCap}{a:Addr}{c:Nat}(h:VRel O (.row cells len cap) (.slice (some a) len c))(n:Nat) :
  VRel O (.rptr (cells.drop n)) (.pointer (some (a.add n))):=by
 cases h with
 |row _ _ _ _ _ xs hp hr hc=>exact jeM n (.rptr _ _ xs hp hr)
theorem jkp {t e:TypeId}{u ui v:V}{x xi:Value}{s:Nat}(hu:P.underlying t=some (.slice e))(hs:(P.info? e).map (·.size)=some s)
  (hx:VRel O u x) (hi:VRel O ui xi) (h:jaw s u ui=some v):∃y,(Instr.indexAt t x xi).run P w=.ok y w/\VRel O v y:=by
 unfold jaw at h;split at h
 ·rename_i cells len cap k i;obtain rfl:=hi.int_inv;obtain⟨a,c,rfl,hcap,hlc⟩:=hx.row_inv;split at h
  ·rename_i hc;simp at h;subst h;refine⟨_,?_,jli hx _⟩;simp[Instr.indexAt,asIntOf,jag hu,jaQ hs,hc]
  ·simp at h
 ·rename_i b off len cap ex k i;obtain rfl:=hi.int_inv;cases hx with
  | hsl _ _ _ _ _ c c' hblk hcc =>
   split at h
   ·rename_i hc;simp at h;subst h;refine⟨_,?_,.ptr _ _ c hblk⟩;simp[Instr.indexAt,asIntOf,jag hu,jaQ hs,hc,jaW]
   ·simp at h
 ·simp at h
theorem jmN {t e:TypeId}{n:Nat}{u ui v:V}{x xi:Value}{s:Nat}(hu:P.underlying t=some (.array n e))(hs:(P.info? e).map (·.size)=some s)
  (hx:VRel O u x) (hi:VRel O ui xi) (h:jfc n s u ui=some v):∃y,(Instr.indexAt t x xi).run P w=.ok y w/\VRel O v y:=by
 unfold jfc at h;split at h
 ·rename_i cells k i;obtain rfl:=hi.int_inv;split at h
  ·rename_i hc;simp at h;subst h;cases hx with
   |rptr _ a xs hp hr =>
    refine⟨_,?_,jeM _ (.rptr _ _ xs hp hr)⟩;simp[Instr.indexAt,Instr.sureAddr,asIntOf,jag hu,jaQ hs,hc]
  ·simp at h
 ·rename_i b off k i;obtain rfl:=hi.int_inv;split at h
  ·rename_i hc;simp at h;subst h;cases hx with
   |ptr _ _ c hblk =>
    refine⟨_,?_,.ptr _ _ c hblk⟩;simp[Instr.indexAt,Instr.sureAddr,asIntOf,jag hu,jaQ hs,hc,jaW]
  ·simp at h
 ·simp at h
theorem jmO {t:TypeId}{fields:Array Field}{f:Nat}{fd:Field}{u v:V}{x:Value}{s:Nat}(hu:P.underlying t=some (.struct fields))(hf:fields[f]? = some fd)
  (hs:(P.info? fd.type).map (·.size)=some s) (h0:s ≠ 0) (hx:VRel O u x) (h:jdV fd.offset u=some v):∃y,(Instr.fieldAt t x f).run P w=.ok y w/\VRel O v y:=by
 unfold jdV at h;split at h
 ·simp at h;subst h;cases hx with
  |rptr _ a xs hp hr =>
   refine⟨_,?_,jeM _ (.rptr _ _ xs hp hr)⟩;simp[Instr.fieldAt,Instr.sureAddr,fieldPlace,jag hu,jaQ hs,hf,h0]
 ·simp at h;subst h;cases hx with
  |ptr _ _ c hblk =>
   refine⟨_,?_,.ptr _ _ c hblk⟩;simp[Instr.fieldAt,Instr.sureAddr,fieldPlace,jag hu,jaQ hs,hf,h0,jaW]
 ·simp at h
theorem LRel.sub {vs:List V}{xs:Array Value}(h:LRel O vs xs)(l n:Nat):LRel O ((vs.drop l).take n) (xs.extract l (l+n)):=by
 have hl:=h.len;refine⟨by simp[hl];omega,λi a b => ?_⟩;simp at a b ⊢;exact h.rel _ _ _
theorem jeN {E:Env}{t:TypeId}{g:Bool}{s:Nat}{cs:List V}{xs:Array Value}{off:Nat}{v:V}(hg:aggT E t=some g)(hs:(E.P.info? t).map (·.size)=some s)
  (hx:LRel O cs xs) (h:jh9 g s cs off=some v):∃y,(part t xs off).run E.P w=.ok y w/\VRel O v y:=by
 unfold jh9 at h;cases g with
 |true =>
  simp at h;subst h;refine⟨_,?_,VRel.mkAgg (hx.sub off s)⟩;simp[part,jfI hg,jaQ hs]
 |false =>
  simp at h;obtain⟨y,hy,hr⟩:=hx.get? h;exact⟨y,by simp[part,jfI hg,hy],hr⟩
theorem jjh {y:Value}{v:V}{s:Sem Value}(h:s.run P w=.ok y w)(hr:VRel O v y):∃y,s.run P w=.ok y w/\VRel O v y:=⟨y,h,hr⟩
theorem jqE {op:BinOp}{k:IntKind}{a b:Int}{v:V}(t:TypeId)(h:jee op k a b=some v) :
  ∃y,(binOp op t (.int k a) (.int k b)).run P w=.ok y w/\VRel O v y:=by
 cases op<;>simp only[jee,Ki,reduceCtorEq]at h
 case quo =>
  split at h
  ·simp at h
  ·rename_i hb;simp at h;subst h;exact jjh (by simp[binOp,Op.intDiv,hb]) (.int _ _)
 case rem =>
  split at h
  ·simp at h
  ·rename_i hb;simp at h;subst h;exact jjh (by simp[binOp,Op.intDiv,hb]) (.int _ _)
 case add=>subst h;exact jjh (by simp[binOp,Op.intArith]) (.int _ _)
 case sub=>subst h;exact jjh (by simp[binOp,Op.intArith]) (.int _ _)
 case mul=>subst h;exact jjh (by simp[binOp,Op.intArith]) (.int _ _)
 case and=>subst h;exact jjh (by simp[binOp,Op.intBits]) (.int _ _)
 case or=>subst h;exact jjh (by simp[binOp,Op.intBits]) (.int _ _)
 case xor=>subst h;exact jjh (by simp[binOp,Op.intBits]) (.int _ _)
 case andNot=>subst h;exact jjh (by simp[binOp,Op.intBits]) (.int _ _)
 all_goals (subst h;exact jjh (by simp[binOp,Op.intCmp]) (.bool _))
theorem jlj {op:BinOp}{k k':IntKind}{a b:Int}{v:V}(h:jjz op k a b=some v) :
  ∃y,(Op.shift op k a k' b).run P w=.ok y w/\VRel O v y:=by
 unfold jjz at h;split at h
 ·simp at h
 ·rename_i hb;split at h
  ·simp at h;subst h;exact⟨_,by simp[Op.shift,hb],.int _ _⟩
  ·simp at h;subst h;exact⟨_,by simp[Op.shift,hb],.int _ _⟩
  ·simp at h
theorem jeO(a b:ByteArray):(a++b).data.toList=a.data.toList++b.data.toList:=by
 have:(a++b).data=a.data++b.data:=ae;rw[this];simp
theorem jqF {op:BinOp}{x y:ByteArray}{v:V}(h:jlg op x.data.toList y.data.toList=some v) :
    ∃z,(Op.stringOp op x y).run P w=.ok z w/\VRel O v z:=by
  have hx:x.data.toList.length=x.size:=by rw[Jm];rfl
  have hy:y.data.toList.length=y.size:=by rw[Jm];rfl
  cases op <;>simp only[jlg]at h<;>first
    |(simp at h;done)
    |(simp at h;subst h;exact⟨_,by simp[Op.stringOp,Lib.toList_data],.bool _⟩)
    | (split at h
       · rename_i hc
         simp at h;subst h;refine⟨.string (x++y),?_,VRel.mkStr (jeO x y)⟩
         have h2:¬((x.size+y.size:Nat):Int)>IntKind.i64.max:=by
           have e:IntKind.i64.max=9223372036854775807:=af;rw[e];unfold lim at hc;omega
         simp only[Op.stringOp,Ke h2,Sem.run_pure]
       · simp at h)
end
section
variable {P:Program}{w:World}{O:Ctx}
theorem je4(off:Nat):∀(vs:List Value) (k:Nat) (cells:Array Value),off+k+vs.length<=cells.size ->
  ((vs.zipIdx k).foldl (λcs (x:Value × Nat)=>cs.setIfInBounds (off+x.2) x.1) cells).toList=cells.toList.take (off+k)++vs++cells.toList.drop (off+k+vs.length)
 | [],k,cells,h=>ae
 | v::vs,k,cells,h=>by
  simp only[Qh]at h;simp only[List.zipIdx_cons,X4];rw[je4 off vs (k+1) _ (by simp;omega)];have hlt:off+k<cells.toList.length:=by simp;omega
  simp only[Array.toList_setIfInBounds];apply Xp;intro i;simp only[Vx,Kk,Qx,V8,Jw,X9,J8,Qh];simp only[Jm]at hlt ⊢;rw[Xt aa,Xt aa]
  rcases Vv i (off+k)with hi|hi|hi
  ·simp[show i<off+(k+1)from by omega,show i<off+k+(vs.length+1)from by omega,hi,show ¬off+k=i from by omega];intro hcon;omega
  ·subst hi;rw[Kg aa,Kg aa,Kg aa,Kg rfl,Kg aa,Kg aa,Ke aa];simp
  ·by_cases h2:i<off+k+1+vs.length
   ·rw[Kg aa,Ke aa,Kg aa,Ke aa];have e:i-(off+k)=(i-(off+(k+1)))+1:=aa;rw[e];simp
   ·rw[Ke aa,Ke aa,Ke aa]
    congr 1
    omega
theorem joh {place:Nat->Option (Nat × Nat)}:∀{ps:List (Nat × V)} {qs:List (Nat × Value)} {cells:List V} {cells':Array Value} {out:List V},
  ps.length=qs.length->(∀i (h:i<ps.length) (h2:i<qs.length),ps[i].1=qs[i].1/\VRel O ps[i].2 qs[i].2)->LRel O cells cells'->jeK place cells ps=some out ->
  ∃out',Instr.fill place cells' qs=some out'/\LRel O out out':=by
 intro ps
 induction ps with
 |nil =>
  intro qs cells cells' out hl hr hc h;have:qs=[]:=by simpa using hl.symm
  subst this;simp[jeK]at h;subst h;exact⟨_,rfl,hc⟩
 | cons p ps ih =>
  intro qs cells cells' out hl hr hc h;cases qs with
  |nil=>simp at hl
  | cons q qs =>
   obtain⟨i,v⟩:=p;obtain⟨j,x⟩:=q;have h0:=hr 0 ae ae;simp only[X8]at h0;obtain⟨rfl,hv⟩:=h0;simp only[jeK]at h;simp only[Instr.fill];cases hp:place i with
   |none=>simp[hp]at h
   | some os =>
    obtain⟨off,size⟩:=os;rw[hp]at h;simp only at h;split at h
    ·rename_i hcond;have hcl:=hv.cells;have hln:=hcl.len;have hcn:=hc.len;have hc2:¬(x.cells.size ≠ size ||off+x.cells.size>cells'.size)=true:=by simp;omega
     simp only[Ke hc2];refine ih (by simpa using hl) (λi h1 h2=>hr (i+1) (by simp;omega) (by simp;omega)) ?_ h;have hf:=je4 off x.cells.toList 0 cells' (by simp;omega)
     have e:x.cells.zipIdx.foldl (λcs (x:Value × Nat)=>cs.setIfInBounds (off+x.2) x.1) cells'=(x.cells.toList.zipIdx.foldl (λcs (x:Value × Nat)=>cs.setIfInBounds (off+x.2) x.1) cells'):=by
      rw[<- Array.foldl_toList];simp
     have hlist:(x.cells.zipIdx.foldl (λcs (x:Value × Nat)=>cs.setIfInBounds (off+x.2) x.1) cells').toList=cells'.toList.take off++x.cells.toList++cells'.toList.drop (off+size):=by
      rw[e,hf];simp;omega
     have hgoal:LRel O (cells.take off++v.cells++cells.drop (off+size)) (cells'.toList.take off++x.cells.toList++cells'.toList.drop (off+size)).toArray:=by
      refine LRel.mkList (by simp[hln,hcn]) (λk a b => ?_);simp only[Vm,Kk,Qx,Jm];simp only[Kk,Qx,Jy,Jm]at a b;have m1:min off cells.length=off:=aa;have m2:min off cells'.size=off:=aa;by_cases k1:k<off
      ·rw[dif_pos aa,dif_pos aa,dif_pos aa,dif_pos aa];simpa using hc.rel k aa aa
      ·by_cases k2:k<off+size
       ·rw[dif_pos aa,dif_neg aa,dif_pos aa,dif_neg aa];have:=hcl.rel (k-off) aa aa;simpa[m1,m2]using this
       ·rw[dif_neg aa,dif_neg aa];have:=hc.rel (off+size+(k-(off+size))) aa aa;simpa[m1,m2,hcond.1,<- hln,List.getElem_drop]using this
     rw[<- hlist]at hgoal;simpa using hgoal
    ·simp at h
theorem jfe(E:Env):∀(fields:List Field) (l:List (Nat × Nat)),(fields.mapM λf=>(sz E f.type).map λs=>(f.offset,s))=some l ->
  (fields.mapM λf=>do pure (f.offset,<- sizeOf f.type):Sem (List (Nat × Nat))).run E.P w=.ok l w
 | [],l,h=>by simp at h;subst h;simp
 |f::fs,l,h=>by
  simp only[Xx,Option.bind_eq_bind,Ko,Option.pure_def,Ki,Kv]at h;obtain⟨a,⟨s,hs,rfl⟩,r,hr,rfl⟩:=h;have:=jfe E fs r hr;simp only[Xx,Sem.run_bind,jaQ hs,Result.andThen_ok,Sem.run_pure,this]
theorem jqG {E:Env}{t:TypeId}{ps:List (Nat × V)}{qs:Array (Nat × Value)}{z:V}{pl:Nat->Option (Nat × Nat)}{cs:List V}(hl:ps.length=qs.size)
  (hr:∀i (h:i<ps.length) (h2:i<qs.size),ps[i].1=qs[i].1/\VRel O ps[i].2 qs[i].2) (hz:jba E t=some z) (hp:jfG E t=some pl) (h:jeK pl z.cells ps=some cs) :
  ∃y,(Instr.build t qs).run E.P w=.ok y w/\VRel O (.agg cs) y:=by
 have hz':∃zv,((E.P.info? t).bind (·.zero))=some zv/\VRel O z zv:=by
  unfold jba at hz;cases h:(E.P.info? t).bind (·.zero)with
  |none=>simp[h]at hz
  |some zv=>rw[h]at hz;exact⟨zv,rfl,jie hz⟩
 obtain⟨zv,hzv,hzr⟩:=hz'
 have rz:(zeroValue t).run E.P w=.ok zv w:=by
  cases hi:E.P.info? t with
  |none=>simp[hi]at hzv
  |some i=>rw[hi]at hzv;simp at hzv;simp[zeroValue,typeInfo,hi,hzv]
 have hqs:∀i (h:i<ps.length) (h2:i<qs.toList.length),ps[i].1=qs.toList[i].1/\VRel O ps[i].2 qs.toList[i].2:=λi h1 h2=>by simpa using hr i h1 (by simpa using h2)
 obtain⟨out,hout,hrel⟩:=joh (O:=O) (by simpa using hl) hqs hzr.cells h;refine⟨.agg out,?_,VRel.mkAgg hrel⟩;unfold jfG at hp;cases hu:E.P.underlying t with
 |none=>simp[hu]at hp
 | some d =>
  rw[hu]at hp;cases d<;>simp at hp
  ·rename_i n e;obtain⟨s,hs,rfl⟩:=hp;simp only[Instr.build,Sem.run_bind,rz,Result.andThen_ok,jag hu,jaQ hs,hout,Sem.run_pure]
  ·rename_i fields;obtain⟨l,hm,rfl⟩:=hp;have:=jfe (w:=w) E fields.toList l hm;simp only[Instr.build,Sem.run_bind,rz,Result.andThen_ok,jag hu,Array.mapM_eq_mapM_toList,Sem.run_map,this];have e:(λi:Nat=>l.toArray[i]?)=λi:Nat=>l[i]? := by funext i;simp
   simp only[e,hout,Sem.run_pure]
def jlk(O:Ctx)(ρ:Operand->Option V)(ρ':Operand->Value):Prop:=∀x v,ρ x=some v->VRel O v (ρ' x)
theorem jkq {ρ:Operand->Option V}{ρ':Operand->Value}(hρ:jlk O ρ ρ'){x:Option Operand}{o:Option V}(h:optO ρ x=some o) :
  (∀v,o=some v->∃y,x.map ρ'=some y/\VRel O v y)/\(o=none->x.map ρ'=none):=by
 cases x with
 |none=>simp[optO]at h;subst h;simp
 |some x =>
  simp only[optO,Kv]at h;obtain⟨v,hv,rfl⟩:=h;exact⟨λu hu=>⟨_,rfl,by cases hu;exact hρ _ _ hv⟩,λe=>by cases e⟩
theorem jll {ρ:Operand->Option V}{ρ':Operand->Value}(hρ:jlk O ρ ρ'):∀{xs:List Operand} {vs:List V},jb1 ρ xs=some vs->LRel O vs (xs.map ρ').toArray
 | [],vs,h=>by simp[jb1]at h;subst h;exact LRel.nil O
 |x::xs,vs,h=>by
  simp only[jb1,Ko,Kv]at h;obtain⟨v,hv,l,hl,rfl⟩:=h;simpa using LRel.cons (hρ _ _ hv) (jll hρ hl)
theorem jcq {ρ:Operand->Option V}{ρ':Operand->Value}(hρ:jlk O ρ ρ'){xs:Array Operand}{vs:List V}(h:jb1 ρ xs.toList=some vs):LRel O vs (xs.map ρ'):=by
 have:=jll hρ h;have e:(xs.toList.map ρ').toArray=xs.map ρ':=by rw[<- Array.toList_map]
 rw[e]at this;exact this
theorem jgW {ρ:Operand->Option V}{ρ':Operand->Value}(hρ:jlk O ρ ρ'):∀{xs:List (Nat × Operand)} {ps:List (Nat × V)},jcH ρ xs=some ps ->
  ps.length=xs.length/\∀i (h:i<ps.length) (h2:i<xs.length),ps[i].1=xs[i].1/\VRel O ps[i].2 (ρ' xs[i].2)
 | [],ps,h=>by simp[jcH]at h;subst h;simp
 |(i,x)::xs,ps,h=>by
  simp only[jcH,Ko,Kv]at h;obtain⟨v,hv,l,hl,rfl⟩:=h;obtain⟨h1,h2⟩:=jgW hρ hl;refine⟨by simp[h1],λj a b => ?_⟩;cases j with
  |zero=>exact⟨rfl,hρ _ _ hv⟩
  |succ j=>simpa using h2 j (by simpa using a) (by simpa using b)
theorem jgX(mx:Bool):∀(vs:List V) (xs:List Value) (k:IntKind) (a:Int) (v:V),LRel O vs xs.toArray->jd4 mx k a vs=some v ->
  ∃y,(xs.foldlM (if mx then Builtin.max2 else Builtin.min2) (.int k a)).run P w=.ok y w/\VRel O v y
 | [],xs,k,a,v,hl,h=>by
  have:xs=[]:=by have:=hl.len;simpa using this.symm
  subst this;simp[jd4]at h;subst h;exact⟨_,rfl,.int _ _⟩
 |u::vs,[],k,a,v,hl,h=>by have:=hl.len;simp at this
 |u::vs,x::xs,k,a,v,hl,h=>by
  cases u<;>simp only[jd4,reduceCtorEq]at h;rename_i k' b;have h0:=hl.rel 0 ae ae;simp at h0;obtain rfl:=h0.int_inv;have ht:LRel O vs xs.toArray:=LRel.mkList (by have:=hl.len;simpa using this) (λi a b=>by have:=hl.rel (i+1) (by simp;omega) (by simp;omega);simpa only[Xb,Xu]using this);obtain⟨y,hy,hr⟩:=jgX mx vs xs k _ v ht h;refine⟨y,?_,hr⟩;cases mx<;>simp only[List.foldlM_cons,Sem.run_bind,Ku,Kn,Kl,Builtin.max2,Builtin.min2,Sem.run_pure,Result.andThen_ok]<;>simpa using hy
end
section
variable {w:World}{O:Ctx}
theorem jdN {E:Env}{ρ':Operand->Value}{o:Oper}{s:Sem Value}{v:V}(he:execOp ρ' o=(do pure (.value (<- s))))(h:∃y,s.run E.P w=.ok y w/\VRel O v y) :
  ∃y,(execOp ρ' o).run E.P w=.ok (.value y) w/\VRel O v y:=by
 obtain⟨y,hy,hr⟩:=h;exact⟨y,by rw[he];simp[hy],hr⟩
theorem jgh {P:Program}{op:BinOp}{t:TypeId}{x y:Operand}{k:IntKind}{n:Int}{b':Value}:(eqGuard op t x y (.int k n) b').run P w=.ok () w:=by
 unfold eqGuard;cases op<;>rfl
theorem jmP {P:Program}{op:BinOp}{t:TypeId}{x y:Operand}{s:ByteArray}{b':Value}:(eqGuard op t x y (.string s) b').run P w=.ok () w:=by
 unfold eqGuard;cases op<;>rfl
theorem jpq {E:Env}{op:BinOp}{t:TypeId}{x y:Operand}{a b v:V}{a' b':Value}(ha:VRel O a a')(hb:VRel O b b')(h:vBin op a b=some v) :
  ∃z,(do eqGuard op t x y a' b';binOp op t a' b':Sem Value).run E.P w=.ok z w/\VRel O v z:=by
 unfold vBin at h;split at h
 ·rename_i k a0 k' b0;obtain rfl:=ha.int_inv;obtain rfl:=hb.int_inv;obtain⟨z,hz,hr⟩:=jlj (P:=E.P) (w:=w) (k':=k') h;exact⟨z,by simp[jgh,binOp,hz],hr⟩
 ·rename_i k a0 k' b0;obtain rfl:=ha.int_inv;obtain rfl:=hb.int_inv;obtain⟨z,hz,hr⟩:=jlj (P:=E.P) (w:=w) (k':=k') h;exact⟨z,by simp[jgh,binOp,hz],hr⟩
 ·split at h
  ·rename_i k a0 k' b0 _ _ hk;subst hk;obtain rfl:=ha.int_inv;obtain rfl:=hb.int_inv;obtain⟨z,hz,hr⟩:=jqE (P:=E.P) (w:=w) t h;exact⟨z,by simp[jgh,hz],hr⟩
  ·simp at h
 ·obtain⟨x1,rfl,h1⟩:=ha.str_inv;obtain⟨x2,rfl,h2⟩:=hb.str_inv;subst h1;subst h2;obtain⟨z,hz,hr⟩:=jqF (P:=E.P) (w:=w) h;have:binOp op t (.string x1) (.string x2)=Op.stringOp op x1 x2:=by cases op<;>rfl
  exact⟨z,by simp[jmP,this,hz],hr⟩
 ·simp at h
theorem jkr {P:Program}{op:BinOp}{t:TypeId}{x y:Operand}(h:(jdi x ||jdi y)=true):(eqGuard op t x y .nilIface .nilIface).run P w=.ok () w:=by
 unfold eqGuard;cases op<;>first|rfl|(cases x<;>cases y<;>first|rfl|(simp[jdi]at h;done))
theorem jvb {E:Env}{t:TypeId}{a b:V}{a' b':Value}{c r:Bool}(ha:VRel O a a')(hb:VRel O b b')(h:vEq (E.P.underlying t) c a b=some r) :
  (Op.equal t a' b').run E.P w=.ok r w:=by
 unfold vEq at h;unfold Op.equal Op.maxDepth;rw[show 10000=9999+1 from rfl];generalize 9999=d
 split at h<;>(try (simp at h;done))<;>rename_i hu<;>(try split at h)<;>(try (simp at h;done))<;>
  (simp only[Ki]at h;subst h;cases ha;cases hb;simp[Op.equalIn,jag hu])
theorem jmQ {E:Env}{op:BinOp}{t:TypeId}{x y:Operand}{a b v:V}{a' b':Value}(ha:VRel O a a')(hb:VRel O b b')(h:jbV (E.P.underlying t) (jdi x ||jdi y) op a b=some v) :
    ∃z,(do eqGuard op t x y a' b';binOp op t a' b':Sem Value).run E.P w=.ok z w/\VRel O v z:=by
  unfold jbV at h;split at h
  · rename_i v0 hv
    simp at h;subst h;exact jpq ha hb hv
  · have key:∀r,vEq (E.P.underlying t) (jdi x ||jdi y) a b=some r->(eqGuard op t x y a' b').run E.P w=.ok () w/\(Op.equal t a' b').run E.P w=.ok r w /\
        binOp .eql t a' b'=(do pure (.bool (<- Op.equal t a' b')))/\binOp .neq t a' b'=(do pure (.bool (!(<- Op.equal t a' b')))):=by
      intro r hr;refine⟨?_,jvb ha hb hr,?_,?_⟩
      · unfold vEq at hr
        split at hr<;>(try (simp at hr;done))<;>(try split at hr)<;>(try (simp at hr;done))<;>cases ha<;>cases hb<;>
          first|(rename_i hc;exact jkr hc)|(unfold eqGuard;cases op<;>rfl)
      · unfold vEq at hr
        split at hr<;>(try (simp at hr;done))<;>cases ha<;>cases hb<;>rfl
      · unfold vEq at hr
        split at hr<;>(try (simp at hr;done))<;>cases ha<;>cases hb<;>rfl
    split at h
    · rw[Kv]at h
      obtain⟨r,hr,rfl⟩:=h;obtain⟨h1,h2,h3,_⟩:=key r hr;exact⟨.bool r,by simp[h1,h3,h2],.bool _⟩
    · rw[Kv]at h
      obtain⟨r,hr,rfl⟩:=h;obtain⟨h1,h2,_,h4⟩:=key r hr;exact⟨.bool !r,by simp[h1,h4,h2],.bool _⟩
    · simp at h
def jlm(d:Nat)(xs' ys':Array Value)(f:Field)(_:Option Bool × Unit):Sem (ForInStep (Option Bool × Unit)) :=
 if f.name ≠ "_" then do
  let x <- part f.type xs' f.offset
  let y <- part f.type ys' f.offset
  let b <- Op.equalIn d f.type x y
  if(!b)=true then pure (ForInStep.done (some false,()))
  else pure (ForInStep.yield (none,()))
 else pure (ForInStep.yield (none,()))
theorem jff {E:Env}{d:Nat}{cmp:TypeId->V->V->Option Bool}(hc:∀t x y x' y' r,VRel O x x'->VRel O y y'->cmp t x y=some r->(Op.equalIn d t x' y').run E.P w=.ok r w){xs ys:List V}{xs' ys':Array Value}(hx:LRel O xs xs')(hy:LRel O ys ys') :
  ∀(l:List Field) (r:Bool),jfH E cmp xs ys l=some r ->
   (forIn l ((none:Option Bool),()) (jlm d xs' ys')).run E.P w=.ok (if r then none else some false,()) w
 | [],r,h=>by simp only[jfH,Ki]at h;subst h;simp
 | f::l,r,h=>by
  simp only[jfH]at h;by_cases hn:f.name = "_"
  ·simp only[hn,ne_eq,not_true_eq_false,Kn]at h;have:=jff hc hx hy l r h;simp only[Vd,jlm,hn,ne_eq,not_true_eq_false,Kn,Sem.run_bind,Sem.run_pure,Result.andThen_ok];exact this
  ·simp only[ne_eq,hn,Je,Kl,Ko]at h;obtain⟨s,hs,g,hg,x,h1,y,h2,b,h3,h4⟩:=h;obtain⟨x',p1,r1⟩:=jeN (w:=w) (E:=E) hg hs hx h1;obtain⟨y',p2,r2⟩:=jeN (w:=w) (E:=E) hg hs hy h2;have p3:=hc _ _ _ _ _ _ r1 r2 h3;cases b with
   |false =>
    simp only[Ku,Kn,Ki]at h4;subst h4;simp[Vd,jlm,hn,p1,p2,p3]
   |true =>
    simp only[Kl]at h4;have:=jff hc hx hy l r h4;simp only[Vd,jlm,hn,ne_eq,Je,Kl,Sem.run_bind,p1,p2,p3,Result.andThen_ok,Q8,Ku,Kn,Sem.run_pure];exact this
def jks(d:Nat)(e:TypeId)(n:Nat)(xs' ys':Array Value)(i:Nat)(_:Option Bool × Unit):Sem (ForInStep (Option Bool × Unit)):=do
 let x <- part e xs' (i*n)
 let y <- part e ys' (i*n)
 let b <- Op.equalIn d e x y
 if(!b)=true then pure (ForInStep.done (some false,()))
 else pure (ForInStep.yield (none,()))
theorem jig {E:Env}{d s:Nat}{e:TypeId}{g:Bool}{cmp:V->V->Option Bool}(hg:aggT E e=some g)(hs:sz E e=some s)(hc:∀x y x' y' r,VRel O x x'->VRel O y y'->cmp x y=some r->(Op.equalIn d e x' y').run E.P w=.ok r w)
  {xs ys:List V} {xs' ys':Array Value} (hx:LRel O xs xs') (hy:LRel O ys ys') :
  ∀(l:List Nat) (r:Bool),jia cmp g s xs ys l=some r ->
   (forIn l ((none:Option Bool),()) (jks d e s xs' ys')).run E.P w=.ok (if r then none else some false,()) w
 | [],r,h=>by simp only[jia,Ki]at h;subst h;simp
 | i::l,r,h=>by
  simp only[jia,Ko]at h;obtain⟨x,h1,y,h2,b,h3,h4⟩:=h;obtain⟨x',p1,r1⟩:=jeN (w:=w) (E:=E) hg hs hx h1;obtain⟨y',p2,r2⟩:=jeN (w:=w) (E:=E) hg hs hy h2;have p3:=hc _ _ _ _ _ r1 r2 h3;cases b with
  |false =>
   simp only[Ku,Kn,Ki]at h4;subst h4;simp[Vd,jks,p1,p2,p3]
  |true =>
   simp only[Kl]at h4;have:=jig hg hs hc hx hy l r h4;simp only[Vd,jks,Sem.run_bind,p1,p2,p3,Result.andThen_ok,Q8,Ku,Kn,Sem.run_pure];exact this
theorem jih {E:Env}:∀(k d:Nat) (t:TypeId) (x y:V) (x' y':Value) (r:Bool),k<=d->VRel O x x'->VRel O y y'->eqT E k t x y=some r->(Op.equalIn d t x' y').run E.P w=.ok r w
 |0,d,t,x,y,x',y',r,hd,hx,hy,h=>by simp[eqT]at h
 |k+1,0,t,x,y,x',y',r,hd,hx,hy,h=>aa
 | k+1,d+1,t,x,y,x',y',r,hd,hx,hy,h=>by
  simp only[eqT]at h;split at h
  ·rename_i hu;simp only[Ki]at h;subst h;cases hx;cases hy;simp[Op.equalIn,jag hu]
  ·rename_i hu;split at h
   ·simp only[Ki]at h;subst h;rename_i hk;subst hk;cases hx;cases hy;simp[Op.equalIn,jag hu]
   ·simp at h
  ·rename_i hu;simp only[Ki]at h;subst h;obtain⟨b1,rfl,e1⟩:=hx.str_inv;obtain⟨b2,rfl,e2⟩:=hy.str_inv;subst e1 e2;have hb:(b1==b2)=(b1.data==b2.data):=rfl
   have this:(b1==b2)=(b1.data.toList==b2.data.toList):=by
    rw[hb,Ta];simp only[beq_iff_eq];exact⟨λh=>by rw[h],λh=>Array.toList_inj.1 h⟩
   simp[Op.equalIn,jag hu,this]
  ·rename_i fields xs ys hu;split at h
   ·simp at h
   ·rename_i hst;obtain⟨xs',rfl,lx⟩:=hx.agg_inv;obtain⟨ys',rfl,ly⟩:=hy.agg_inv;have:=jff (d:=d) (λt x y x' y' r a b c=>jih k d t x y x' y' r aa a b c) lx ly fields.toList r h;rw[Array.forIn_toList]at this;simp only[Op.equalIn,Sem.run_bind,jag hu,Result.andThen_ok];have hp:(program:Sem Program).run E.P w=.ok E.P w:=rfl;rw[hp,Result.andThen_ok,Ke hst,Sem.run_bind];show((forIn fields ((none:Option Bool),()) (jlm d xs' ys')).run E.P w).andThen _=_;rw[this];cases r<;>rfl
  ·rename_i len e xs ys hu;simp only[Ko]at h;obtain⟨s,hs,g,hg,h⟩:=h;obtain⟨xs',rfl,lx⟩:=hx.agg_inv;obtain⟨ys',rfl,ly⟩:=hy.agg_inv;have:=jig (d:=d) hg hs (λx y x' y' r a b c=>jih k d e x y x' y' r aa a b c) lx ly (List.range len) r h;simp only[Op.equalIn,Sem.run_bind,jag hu,Result.andThen_ok,jaQ hs];simp only[Std.Legacy.Range.forIn_eq_forIn_range',Std.Legacy.Range.size,Nat.sub_zero,Nat.add_one_sub_one,Nat.div_one];rw[<- Tc];show((forIn (List.range len) ((none:Option Bool),()) (jks d e s xs' ys')).run E.P w).andThen _=_;rw[this];cases r<;>rfl
  ·simp at h
theorem jii {E:Env}{t:TypeId}{a o b o':Nat}{a' b':Value}(ha:VRel O (.ptr a o) a')(hb:VRel O (.ptr b o') b')(h:jkn E t a o b o'=true):(Op.equal t a' b').run E.P w=.ok true w:=by
 unfold jkn at h;split at h
 ·rename_i e hu;simp only[Qt,Jq]at h;obtain⟨⟨rfl,rfl⟩,hs⟩:=h;obtain⟨s,hs⟩:=Option.isSome_iff_exists.1 hs;cases ha with
  | ptr _ _ c1 h1 =>
   cases hb with
   |ptr _ _ c2 h2 =>
    rw[h1]at h2;simp only[Ki]at h2;subst h2;unfold Op.equal Op.maxDepth;rw[show 10000=9999+1 from rfl];generalize 9999=d;simp[Op.equalIn,jag hu,samePointer,sameAddr,jaQ hs]
 ·simp at h
theorem jgx {E:Env}{t tx:TypeId}(h:jhL E t tx=true):∃ms q,E.P.underlying t=some (.interface ms)/\E.P.underlying tx=some (.int q)/\(E.P.info? tx).map (·.comparable)=some true:=by
 unfold jhL at h;split at h
 ·rename_i h1 h2 h3;exact⟨_,_,h1,h2,h3⟩
 ·simp at h
theorem jpr {E:Env}{op:BinOp}{t:TypeId}{x y:Operand}{a b v:V}{a' b':Value}(ha:VRel O a a')(hb:VRel O b b')(h:jth E t op a b=some v) :
  ∃z,(do eqGuard op t x y a' b';binOp op t a' b':Sem Value).run E.P w=.ok z w/\VRel O v z:=by
 unfold jth at h;split at h
 ·rename_i xs ys;split at h
  ·simp at h
  ·rename_i hg;rw[Kv]at h;obtain⟨r,hr,rfl⟩:=h;have h1:(Op.equal t a' b').run E.P w=.ok r w:=jih 8 Op.maxDepth t _ _ _ _ r (by unfold Op.maxDepth;omega) ha hb hr;obtain⟨xs',rfl,lx⟩:=ha.agg_inv;obtain⟨ys',rfl,ly⟩:=hb.agg_inv;have hp:(program:Sem Program).run E.P w=.ok E.P w:=rfl;refine⟨.bool r,?_,.bool _⟩;simp[eqGuard,hp,hg,binOp,h1]
 ·rename_i xs ys;split at h
  ·simp at h
  ·rename_i hg;rw[Kv]at h;obtain⟨r,hr,rfl⟩:=h;have h1:(Op.equal t a' b').run E.P w=.ok r w:=jih 8 Op.maxDepth t _ _ _ _ r (by unfold Op.maxDepth;omega) ha hb hr;obtain⟨xs',rfl,lx⟩:=ha.agg_inv;obtain⟨ys',rfl,ly⟩:=hb.agg_inv;have hp:(program:Sem Program).run E.P w=.ok E.P w:=rfl;refine⟨.bool !r,?_,.bool _⟩;simp[eqGuard,hp,hg,binOp,h1]
 ·rename_i x1 o x2 o';split at h
  ·rename_i hs;simp only[Ki]at h;subst h;have h1:=jii (w:=w) ha hb hs;refine⟨.bool true,?_,.bool _⟩;cases ha;cases hb;simp[eqGuard,binOp,h1]
  ·simp at h
 ·rename_i x1 o x2 o';split at h
  ·rename_i hs;simp only[Ki]at h;subst h;have h1:=jii (w:=w) ha hb hs;refine⟨.bool false,?_,.bool _⟩;cases ha;cases hb;simp[eqGuard,binOp,h1]
  ·simp at h
 ·rename_i tx k a ty k' b;split at h
  ·rename_i hc;obtain⟨rfl,rfl,hi⟩:=hc;simp only[Ki]at h;subst h;cases ha with|iface _ _ x1 h1 => ?_
   cases hb with|iface _ _ x2 h2 => ?_
   cases h1;cases h2;obtain⟨ms,q,h3,h4,h5⟩:=jgx hi;refine⟨_,?_,.bool _⟩;rw[Sem.run_bind];simp only[eqGuard];exact Go.Lib.run_eql_iface_int w _ _ h3 h5 h4
  ·simp at h
 ·rename_i tx k a ty k' b;split at h
  ·rename_i hc;obtain⟨rfl,rfl,hi⟩:=hc;simp only[Ki]at h;subst h;cases ha with|iface _ _ x1 h1 => ?_
   cases hb with|iface _ _ x2 h2 => ?_
   cases h1;cases h2;obtain⟨ms,q,h3,h4,h5⟩:=jgx hi;refine⟨_,?_,.bool _⟩;rw[Sem.run_bind];simp only[eqGuard];exact Go.Lib.run_neq_iface_int w _ _ h3 h5 h4
  ·simp at h
 ·simp at h
theorem jmR {E:Env}{op:BinOp}{t:TypeId}{x y:Operand}{a b v:V}{a' b':Value}(ha:VRel O a a')(hb:VRel O b b')(h:jlh E t (jdi x ||jdi y) op a b=some v) :
  ∃z,(do eqGuard op t x y a' b';binOp op t a' b':Sem Value).run E.P w=.ok z w/\VRel O v z:=by
 unfold jlh at h;split at h
 ·rename_i v0 hv;simp at h;subst h;exact jmQ ha hb hv
 ·exact jpr ha hb h
theorem jtj {P:Program}{t:TypeId}{v r:V}{x:Value}(hx:VRel O v x)(h:jbb (P.underlying t) v=some r)(ats:Array TypeId)(ha:ats[0]? = some t)(ty:TypeId):∃y,(Builtin.len_ ats ty #[x]).run P w=.ok y w/\VRel O r y:=by
 unfold jbb at h;split at h<;>(try (simp at h;done))
 ·rename_i b hu;simp at h;subst h;obtain⟨x1,rfl,h1⟩:=hx.str_inv;refine⟨.int .i64 x1.size,by simp[Builtin.len_,ha,jag hu,goInt],?_⟩;have:b.length=x1.size:=by rw[<- h1,Jm];rfl
  rw[this];exact .int _ _
 ·rename_i hu;simp at h;subst h;obtain⟨a,c,rfl,_⟩:=hx.row_inv;exact⟨_,by simp[Builtin.len_,ha,jag hu,goInt],.int _ _⟩
 ·rename_i hu;simp at h;subst h;cases hx;exact⟨_,by simp[Builtin.len_,ha,jag hu,goInt],.int _ _⟩
 ·rename_i hu;simp at h;subst h;cases hx;exact⟨_,by simp[Builtin.len_,ha,jag hu,goInt],.int _ _⟩
 ·rename_i hu;simp at h;subst h;exact⟨_,by simp[Builtin.len_,ha,jag hu,goInt],.int _ _⟩
theorem jtk {P:Program}{t:TypeId}{v r:V}{x:Value}(hx:VRel O v x)(h:jpp (P.underlying t) v=some r)(ats:Array TypeId)(ha:ats[0]? = some t)(ty:TypeId):∃y,(Builtin.cap_ ats ty #[x]).run P w=.ok y w/\VRel O r y:=by
 unfold jpp at h;split at h<;>(try (simp at h;done))
 ·rename_i hu;simp at h;subst h;cases hx;exact⟨_,by simp[Builtin.cap_,ha,jag hu,goInt],.int _ _⟩
 ·rename_i hu;simp at h;subst h;obtain⟨a,c,rfl,hc,_⟩:=hx.row_inv;simp only[jcs]at hc;subst hc;exact⟨_,by simp[Builtin.cap_,ha,jag hu,goInt],.int _ _⟩
 ·rename_i hu;simp at h;subst h;cases hx with
  |hsl _ _ _ _ _ c c' hb hc =>
   have e:=hc.2;subst e;exact⟨_,by simp[Builtin.cap_,ha,jag hu,goInt],.int _ _⟩
 ·rename_i hu;simp at h;subst h;cases hx with
  |hsl _ _ _ _ _ c c' hb hc =>
   have e:=hc.2.1;subst e;exact⟨_,by simp[Builtin.cap_,ha,jag hu,goInt],.int _ _⟩
theorem jln {n:Int}(h1:0<=n)(h2:n<128):(Utf8.encode n).data.toList=[UInt8.ofNat n.toNat]:=by
 have hv:Utf8.valid n=true:=by unfold Utf8.valid;simp;omega
 unfold Utf8.encode;simp only[hv,Kl];rw[Kg aa]
theorem jmS {E:Env}{w:World}{t:TypeId}{v:V}{x':Value}{name:String}{p:FuncId × V}(h:jgV E (.iface t v) name=some p) :
  ∀n,(nilAhead (n+Made.depth) t x' name).run E.P w=.ok (some false) w:=by
 unfold jgV at h;simp only[Ko]at h;obtain⟨m,⟨i,hi,hf⟩,h⟩:=h;split at h
 ·rename_i hp;have hp2:m.path.toList=[]:=by simpa using hp
  have hti:(typeInfo t).run E.P w=.ok i w:=by simp[typeInfo,hi]
  intro n;have hd:∃k,n+Made.depth=k+1:=⟨n+Made.depth-1,by unfold Made.depth;omega⟩;obtain⟨k,hk⟩:=hd;rw[hk];split at h
  ·rename_i g e hm hu;simp[nilAhead,hti,hf,hp2,followBlind,hm]
  ·simp at h
  ·rename_i g d hd hm hu;simp only[nilAhead,Sem.run_bind,hti,Result.andThen_ok,hf,hp2,followBlind,Sem.run_pure,hm,jag hu];cases d<;>first|exact absurd rfl (hd _)|rfl
  ·simp at h
 ·simp at h
theorem jmT {E:Env}{ρ:Operand->Option V}{ρ':Operand->Value}(hρ:jlk O ρ ρ')(o:Oper){v:V}(h:jbK E ρ o.op=some v) :
  ∃y,(execOp ρ' o).run E.P w=.ok (.value y) w/\VRel O v y:=by
 obtain⟨dst,op,type,pos,after,guard⟩:=o;simp only at h;cases op<;>simp only[jbK,Ko,Kv,reduceCtorEq]at h
 case move x=>exact⟨_,rfl,hρ _ _ h⟩
 case assign x=>exact⟨_,rfl,hρ _ _ h⟩
 case pick c a b =>
  obtain⟨cv,hc,h⟩:=h;cases cv<;>simp only[reduceCtorEq,Ko]at h;rename_i t;obtain⟨x,hx,y,hy,h⟩:=h;simp at h;subst h;have:=(hρ _ _ hc).bool_inv;refine⟨if t then ρ' a else ρ' b,by simp[execOp,this,asBool],?_⟩;cases t
  ·exact hρ _ _ hy
  ·exact hρ _ _ hx
 case build t parts =>
  obtain⟨ps,hp,z,hz,pl,hpl,cs,hf,rfl⟩:=h;obtain⟨h1,h2⟩:=jgW hρ hp;refine jdN rfl (jqG (by simpa using h1) (λi a b => ?_) hz hpl hf);have:=h2 i a (by simpa using b);simpa using this
 case binOp op t x y yt =>
  obtain⟨a,ha,b,hb,h⟩:=h;exact jdN rfl (jmR (hρ _ _ ha) (hρ _ _ hb) h)
 case unOp op t x =>
  obtain⟨a,ha,h⟩:=h;have hr:=hρ _ _ ha;refine jdN rfl ?_;unfold vUn at h;split at h
  ·simp at h;subst h;rw[hr.bool_inv];exact⟨_,by simp[Op.unary],.bool _⟩
  ·simp at h;subst h;rw[hr.int_inv];exact⟨_,by simp[Op.unary,Op.intArith],.int _ _⟩
  ·simp at h;subst h;rw[hr.int_inv];exact⟨_,by simp[Op.unary,Op.intBits],.int _ _⟩
  ·simp at h
 case convert src dst x =>
  obtain⟨a,ha,h⟩:=h;have hr:=hρ _ _ ha;refine jdN rfl ?_;split at h
  ·rename_i d1 k k' n h1 h2;simp at h;subst h;rw[hr.int_inv];exact⟨_,by simp[convert,jag h1,jag h2,Conv.intToInt],.int _ _⟩
  ·rename_i d1 s h1 h2;simp at h;subst h;obtain⟨x1,hx,hs⟩:=hr.str_inv;rw[hx];refine⟨.string x1,?_,VRel.mkStr hs⟩;cases d1<;>simp[convert,jag h1,jag h2]
  ·rename_i d1 k n h1 h2;split at h
   ·rename_i hn;simp at h;subst h;rw[hr.int_inv];refine⟨.string (Utf8.encode n),?_,VRel.mkStr (jln hn.1 hn.2)⟩;cases d1<;>simp[convert,jag h1,jag h2,Conv.intToString]
   ·simp at h
  ·simp at h
 case makeInterface t x =>
  obtain⟨a,ha,h⟩:=h;refine jdN rfl ?_;split at h
  ·simp at h
  ·rename_i d hd hu;simp at h;subst h;refine⟨.iface t (ρ' x),?_,.iface _ _ _ (hρ _ _ ha)⟩;cases d<;>first|(exact absurd rfl (hd _))|simp[Instr.makeInterface,jag hu]
  ·simp at h
 case makeFunc fn first captured =>
  cases fn<;>simp only[Ko,Kv,reduceCtorEq]at h
  ·obtain⟨a,ha,c,hc,rfl⟩:=h;have h1:=jcq hρ ha;have h2:=jcq hρ hc;exact jdN rfl ⟨_,rfl,.func _ _ _ _ _ h1.len h1.rel h2.len h2.rel⟩
  ·split at h
   ·rename_i x e1 e2;simp only[Kv]at h;obtain⟨a,ha,rfl⟩:=h;have e3:first = #[x]:=by apply Array.ext';simpa using e1
    have e4:captured = #[]:=by apply Array.ext';simpa using e2
    subst e3;subst e4;exact jdN rfl ⟨_,rfl,by simpa using VRel.meth _ _ _ (hρ _ _ ha)⟩
   ·simp at h
 case slice t x lo hi mx =>
  obtain⟨a,ha,l,hl,hh,hhi,m,hm,h⟩:=h;obtain⟨l1,l2⟩:=jkq hρ hl;obtain⟨h1,h2⟩:=jkq hρ hhi;obtain⟨m1,m2⟩:=jkq hρ hm;refine jdN rfl ?_;split at h
  ·rename_i hu;cases a<;>simp only[reduceCtorEq]at h;cases m with
   |none=>rw[m2 rfl];exact jmL hu (hρ _ _ ha) l1 l2 h1 h2 (k:=0) h
   |some m=>simp[jcM]at h
  ·rename_i e hu;simp only[Ko]at h;obtain⟨s,hs,h⟩:=h;have hstr:∀b,a ≠ .str b:=by intro b e;subst e;simp at h
   have h':jcM s a l hh m=some v:=by cases a<;>first|exact h|simp at h
   exact jko hu hs (hρ _ _ ha) hstr l1 l2 h1 h2 m1 m2 h'
  ·rename_i n e hu;simp only[Ko]at h;obtain⟨s,hs,h⟩:=h;exact jmM hu hs (hρ _ _ ha) l1 l2 h1 h2 m2 h
  ·simp at h
 case nilCheck x =>
  obtain⟨a,ha,h⟩:=h;have hr:=hρ _ _ ha;cases a<;>simp only[reduceCtorEq,Ki]at h
  ·subst h;refine⟨ρ' x,?_,hr⟩;cases hx:ρ' x<;>rw[hx]at hr<;>cases hr;simp[execOp,hx]
  ·subst h;refine⟨ρ' x,?_,hr⟩;cases hx:ρ' x<;>rw[hx]at hr<;>cases hr;simp[execOp,hx]
  ·rename_i name r;simp only[Kv]at h;obtain⟨p,hp,rfl⟩:=h;refine⟨ρ' x,?_,hr⟩;cases hx:ρ' x<;>rw[hx]at hr<;>cases hr;rename_i x' hr';cases r<;>first|(simp[jgV]at hp;done)|skip
   cases hr';have hpr:(program).run E.P w=.ok E.P w:=rfl;simp[execOp,hx,hpr,jmS hp]
 case fieldAddr t x f =>
  obtain⟨a,ha,h⟩:=h;refine jdN rfl ?_;split at h
  ·rename_i fields hu;simp only[Ko]at h;obtain⟨fd,hf,s,hs,h⟩:=h;split at h
   ·simp at h
   ·exact jmO hu hf hs ‹_› (hρ _ _ ha) h
  ·simp at h
 case field t x f =>
  obtain⟨a,ha,h⟩:=h;refine jdN rfl ?_;split at h
  ·rename_i fields cs hu;simp only[Ko]at h;obtain⟨fd,hf,s,hs,g,hg,h⟩:=h;obtain⟨xs,hx,hl⟩:=(hρ _ _ ha).agg_inv;obtain⟨y,hy,hr⟩:=jeN (w:=w) hg hs hl h;exact⟨y,by simp[Instr.field,jag hu,hf,hx,asAgg,hy],hr⟩
  ·simp at h
 case indexAddr t x ix =>
  obtain⟨a,ha,i,hi,h⟩:=h;refine jdN rfl ?_;split at h
  ·rename_i e hu;simp only[Ko]at h;obtain⟨s,hs,h⟩:=h;exact jkp hu hs (hρ _ _ ha) (hρ _ _ hi) h
  ·rename_i n e hu;simp only[Ko]at h;obtain⟨s,hs,h⟩:=h;exact jmN hu hs (hρ _ _ ha) (hρ _ _ hi) h
  ·simp at h
 case index t x ix =>
  obtain⟨a,ha,i,hi,h⟩:=h;refine jdN rfl ?_;split at h
  ·rename_i s k n hu;obtain⟨x1,hx,hs⟩:=(hρ _ _ ha).str_inv;have hin:=(hρ _ _ hi).int_inv;split at h
   ·rename_i hc;simp at h;subst h;subst hs;have hlt:n.toNat<x1.size:=by have:=hc.2;rw[Jm]at this;show n.toNat<x1.data.size;omega
    have hlt2:n.toNat<x1.data.size:=hlt
    have hg:x1[n.toNat]? = some (x1.data.toList.getD n.toNat 0):=by
     have e1:x1[n.toNat]? = some x1[n.toNat]:=by simp[hlt]
     have e2:x1[n.toNat]=x1.data[n.toNat]:=rfl
     have e3:x1.data.toList.getD n.toNat 0=x1.data[n.toNat]:=by
      rw[List.getD_eq_getElem?_getD,Xl,J6 hlt2];rfl
     rw[e1,e2,e3]
    exact⟨.int .u8 (x1.data.toList.getD n.toNat 0).toNat,by simp only[Instr.index,hin,hx,asIntOf,jag hu,hc.1,hg,Sem.run_bind,Sem.run_pure,Result.andThen_ok,Kl],.int _ _⟩
   ·simp at h
  ·rename_i len e cs k n hu;obtain⟨xs,hx,hl⟩:=(hρ _ _ ha).agg_inv;have hin:=(hρ _ _ hi).int_inv;split at h
   ·rename_i hc;simp only[Ko]at h;obtain⟨s,hs,g,hg,h⟩:=h;obtain⟨y,hy,hr⟩:=jeN (w:=w) hg hs hl h;exact⟨y,by simp[Instr.index,hin,hx,asIntOf,jag hu,hc,jaQ hs,hy],hr⟩
   ·simp at h
  ·simp at h
 case extract x i =>
  obtain⟨a,ha,h⟩:=h;refine jdN rfl ?_;cases a<;>simp only[reduceCtorEq]at h;obtain⟨xs,hx,hl⟩:=(hρ _ _ ha).tup_inv;obtain⟨y,hy,hr⟩:=hl.get? h;exact⟨y,by simp[Instr.extract,hx,hy],hr⟩
 case call c =>
  obtain⟨callee,args,argTypes⟩:=c;cases callee<;>simp only[reduceCtorEq]at h;rename_i b;cases b<;>simp only[reduceCtorEq,Ko]at h
  case len =>
   obtain⟨vs,hv,h⟩:=h;have hl:=jcq hρ hv
   match vs,h with
   | [v0],h =>
    simp only[Ko]at h;obtain⟨t,ht,h⟩:=h;have hsz:(args.map ρ').size=1:=by have:=hl.len;simpa using this.symm
    have he:args.map ρ' = #[(args.map ρ')[0]]:=by
     apply Array.ext (by simpa using hsz);intro i a b;have:i=0:=by simp at b;omega
     subst this;rfl
    have h0:=hl.rel 0 ae aa;obtain⟨y,hy,hr⟩:=jtj (w:=w) h0 h argTypes ht type;refine⟨y,?_,hr⟩;have he2:args.map ρ' = #[(args.map ρ')[0]]:=he;simp only[execOp,resolve,invoke,builtin,Sem.run_bind,Sem.run_pure,Result.andThen_ok];rw[he2,hy];rfl
  case cap =>
   obtain⟨vs,hv,h⟩:=h;have hl:=jcq hρ hv
   match vs,h with
   | [v0],h =>
    simp only[Ko]at h;obtain⟨t,ht,h⟩:=h;have hsz:(args.map ρ').size=1:=by have:=hl.len;simpa using this.symm
    have he:args.map ρ' = #[(args.map ρ')[0]]:=by
     apply Array.ext (by simpa using hsz);intro i a b;have:i=0:=by simp at b;omega
     subst this;rfl
    have h0:=hl.rel 0 ae aa;obtain⟨y,hy,hr⟩:=jtk (w:=w) h0 h argTypes ht type;refine⟨y,?_,hr⟩;have he2:args.map ρ' = #[(args.map ρ')[0]]:=he;simp only[execOp,resolve,invoke,builtin,Sem.run_bind,Sem.run_pure,Result.andThen_ok];rw[he2,hy];rfl
  case max =>
   obtain⟨vs,hv,h⟩:=h;have hl:=jcq hρ hv;cases vs with
   |nil=>simp[jdE]at h
   | cons u us =>
    cases u<;>simp only[jdE,reduceCtorEq]at h;rename_i k a;cases hxs:(args.map ρ').toList with
    |nil=>have:=hl.len;rw[<- Jm,hxs]at this;simp at this
    |cons x xs =>
     have hl2:LRel O (V.int k a::us) (x::xs).toArray:=by rw[<- hxs,Array.toArray_toList];exact hl
     have h0:=hl2.rel 0 ae ae;simp at h0;obtain rfl:=h0.int_inv;have ht:LRel O us xs.toArray:=LRel.mkList (by have:=hl2.len;simpa using this) (λi a b=>by have:=hl2.rel (i+1) (by simp;omega) (by simp;omega);simpa only[Xb,Xu]using this);obtain⟨y,hy,hr⟩:=jgX (P:=E.P) (w:=w) true us xs k a v ht h;refine⟨y,?_,hr⟩;simp only[Kl]at hy;simp only[execOp,resolve,invoke,builtin,Builtin.max_,hxs,Sem.run_bind,Sem.run_pure,Result.andThen_ok,hy]
  case min =>
   obtain⟨vs,hv,h⟩:=h;have hl:=jcq hρ hv;cases vs with
   |nil=>simp[jdE]at h
   | cons u us =>
    cases u<;>simp only[jdE,reduceCtorEq]at h;rename_i k a;cases hxs:(args.map ρ').toList with
    |nil=>have:=hl.len;rw[<- Jm,hxs]at this;simp at this
    |cons x xs =>
     have hl2:LRel O (V.int k a::us) (x::xs).toArray:=by rw[<- hxs,Array.toArray_toList];exact hl
     have h0:=hl2.rel 0 ae ae;simp at h0;obtain rfl:=h0.int_inv;have ht:LRel O us xs.toArray:=LRel.mkList (by have:=hl2.len;simpa using this) (λi a b=>by have:=hl2.rel (i+1) (by simp;omega) (by simp;omega);simpa only[Xb,Xu]using this);obtain⟨y,hy,hr⟩:=jgX (P:=E.P) (w:=w) false us xs k a v ht h;refine⟨y,?_,hr⟩;simp only[Ku,Kn]at hy;simp only[execOp,resolve,invoke,builtin,Builtin.min_,hxs,Sem.run_bind,Sem.run_pure,Result.andThen_ok,hy]
end
def jhM(E:Env)(t:TypeId):Bool :=
 match E.P.underlying t with
 |some .bool=>true
 |some (.int _)=>true
 |some .string=>true
 |_=>false
section
variable {O:Ctx}{w:World}{E:Env}
def ERel(O:Ctx)(es:List (V × V × Nat))(xs:List MapEntry):Prop :=
 es.length=xs.length/\∀i (h:i<es.length) (h2:i<xs.length),VRel O es[i].1 xs[i].key/\VRel O es[i].2.1 xs[i].val/\es[i].2.2=xs[i].born
theorem ERel.cons {e:V × V × Nat}{es:List (V × V × Nat)}{x:MapEntry}{xs:List MapEntry}(h:ERel O (e::es) (x::xs)):VRel O e.1 x.key/\VRel O e.2.1 x.val/\e.2.2=x.born/\ERel O es xs:=by
 have h0:=h.2 0 ae ae;refine⟨h0.1,h0.2.1,h0.2.2,by have:=h.1;simpa using this,λi a b => ?_⟩;have:=h.2 (i+1) (by simp;omega) (by simp;omega);simpa using this
theorem jf7 {kt:TypeId}{k:V}{k':Value}(hk:VRel O k k'):∀(es:List (V × V × Nat)) (xs:List MapEntry) (i:Nat) (r:Option Nat),ERel O es xs->jcj E kt k es i=some r ->
  ∃r',(Instr.findAsking kt k' xs i).run E.P w=.ok r' w/\(r=none->r'=none)/\∀j,r=some j->i<=j/\j<i+es.length/\∃e x,es[j-i]? = some e/\xs[j-i]? = some x/\r'=some (j,x.val)
 | [],[],i,r,hr,h=>by
  simp only[jcj,Ki]at h;subst h;exact⟨none,by simp[Instr.findAsking],λ_=>rfl,λj h=>by cases h⟩
 | [],_::_,i,r,hr,h=>by have:=hr.1;simp at this
 |_::_,[],i,r,hr,h=>by have:=hr.1;simp at this
 | e::es,x::xs,i,r,hr,h=>by
  obtain⟨h1,h2,h3,h4⟩:=hr.cons;simp only[jcj,Ko]at h;obtain⟨b,hb,h⟩:=h;have he:(Op.equal kt k' x.key).run E.P w=.ok b w:=jih 8 Op.maxDepth kt _ _ _ _ b (by unfold Op.maxDepth;omega) hk h1 hb;cases b with
  |true =>
   simp only[Kl,Ki]at h;subst h;refine⟨some (i,x.val),by simp[Instr.findAsking,he],λh=>(by cases h),λj hj => ?_⟩;cases hj;exact⟨Kw _,ae,e,x,ae,ae,rfl⟩
  |false =>
   simp only[Ku,Kn]at h;obtain⟨r',q1,q2,q3⟩:=jf7 hk es xs (i+1) r h4 h;refine⟨r',by simp[Instr.findAsking,he,q1],q2,λj hj => ?_⟩;obtain⟨c1,c2,e',x',c3,c4,c5⟩:=q3 j hj;refine⟨aa,by simp;omega,e',x',?_,?_,c5⟩
   ·rw[show j-i=(j-(i+1))+1 by omega,Q7];exact c3
   ·rw[show j-i=(j-(i+1))+1 by omega,Q7];exact c4
theorem jqH(b1 b2:ByteArray):(b1==b2)=(b1.data.toList==b2.data.toList):=by
 have hb:(b1==b2)=(b1.data==b2.data):=rfl;rw[hb,Ta];simp only[beq_iff_eq];exact⟨λh=>by rw[h],λh=>Array.toList_inj.1 h⟩
theorem jqI:∀(d n:Nat) (a b:V) (a' b':Value),d<=n->VRel O a a'->VRel O b b'->jhH d a b=true->Instr.sameBits n a' b'=true:=by
 intro d
 induction d with
 | zero =>
  intro n a b a' b' hd ha hb h;cases a<;>cases b<;>simp only[jhH,Ku]at h
  ·obtain rfl:=ha.bool_inv;obtain rfl:=hb.bool_inv;cases n<;>simpa[Instr.sameBits]using h
  ·obtain rfl:=ha.int_inv;obtain rfl:=hb.int_inv;cases n<;>simpa[Instr.sameBits]using h
  ·obtain⟨x,rfl,e1⟩:=ha.str_inv;obtain⟨y,rfl,e2⟩:=hb.str_inv;subst e1 e2;cases n<;>(simp only[Instr.sameBits,jqH];exact h)
 | succ d ih =>
  intro n a b a' b' hd ha hb h;obtain⟨n,rfl⟩:∃m,n=m+1:=⟨n-1,aa⟩;cases a<;>cases b<;>simp only[jhH,Ku]at h
  ·obtain rfl:=ha.bool_inv;obtain rfl:=hb.bool_inv;simpa[Instr.sameBits]using h
  ·obtain rfl:=ha.int_inv;obtain rfl:=hb.int_inv;simpa[Instr.sameBits]using h
  ·obtain⟨x,rfl,e1⟩:=ha.str_inv;obtain⟨y,rfl,e2⟩:=hb.str_inv;subst e1 e2;simp only[Instr.sameBits,jqH];exact h
  ·rename_i xs ys;obtain⟨xs',rfl,lx⟩:=ha.agg_inv;obtain⟨ys',rfl,ly⟩:=hb.agg_inv;rw[Qt,Jq]at h;obtain⟨hl,hall⟩:=h;have e1:=lx.len;have e2:=ly.len;simp only[Instr.sameBits,Qt,beq_iff_eq];refine⟨aa,?_⟩;rw[Qq]at hall ⊢;rintro⟨x,y⟩ hm;obtain⟨i,hi,he⟩:=Jr hm;simp only[List.length_zip,Jm]at hi;simp only[List.getElem_zip,Array.getElem_toList,Qg]at he;obtain⟨rfl,rfl⟩:=he
   have hz:=hall (xs[i]' aa,ys[i]' aa) (by
    have:i<(xs.zip ys).length:=by simp;omega
    have:=J7 this;simpa using this)
   exact ih n _ _ _ _ aa (lx.rel i aa aa) (ly.rel i aa aa) hz
theorem jij {kt:TypeId}{ud:TypeDesc}(hu:E.P.underlying kt=some ud)(hp:jhM E kt=true){k:V}{k':Value}(hk:VRel O k k'):∀(es:List (V × V × Nat)) (xs:List MapEntry) (i:Nat) (r:Option Nat),ERel O es xs->jcj E kt k es i=some r ->
  ∃r',Instr.findNow ud k' xs i=some r'/\(r=none->r'=none)/\∀j,r=some j->i<=j/\j<i+es.length/\∃e x,es[j-i]? = some e/\xs[j-i]? = some x/\r'=some (j,x.val)
 | [],[],i,r,hr,h=>by
  simp only[jcj,Ki]at h;subst h;exact⟨none,rfl,λ_=>rfl,λj h=>by cases h⟩
 | [],_::_,i,r,hr,h=>by have:=hr.1;simp at this
 |_::_,[],i,r,hr,h=>by have:=hr.1;simp at this
 | e::es,x::xs,i,r,hr,h=>by
  obtain⟨h1,h2,h3,h4⟩:=hr.cons;simp only[jcj,Ko]at h;obtain⟨b,hb,h⟩:=h
  have he:Instr.sameNow ud k' x.key=some b:=by
   simp only[jhM,hu]at hp;generalize hy:e.1=y at hb h1;simp only[eqT,hu]at hb;split at hb
   ·rename_i heq;cases heq;obtain rfl:=hk.bool_inv;rw[h1.bool_inv];exact hb
   ·rename_i heq;cases heq;obtain rfl:=hk.int_inv;rw[h1.int_inv];exact hb
   ·rename_i heq;cases heq;obtain⟨x1,rfl,e1⟩:=hk.str_inv;obtain⟨x2,hx2,e2⟩:=h1.str_inv;rw[hx2];subst e1 e2;simp only[Instr.sameNow,jqH];exact hb
   ·rename_i heq;cases heq;simp at hp
   ·rename_i heq;cases heq;simp at hp
   ·simp at hb
  cases b with
  |true =>
   simp only[Kl,Ki]at h;subst h;refine⟨some (i,x.val),by simp[Instr.findNow,he],λh=>(by cases h),λj hj => ?_⟩;cases hj;exact⟨Kw _,ae,e,x,ae,ae,rfl⟩
  |false =>
   simp only[Ku,Kn]at h;obtain⟨r',q1,q2,q3⟩:=jij hu hp hk es xs (i+1) r h4 h;refine⟨r',by simp[Instr.findNow,he,q1],q2,λj hj => ?_⟩;obtain⟨c1,c2,e',x',c3,c4,c5⟩:=q3 j hj;refine⟨aa,by simp;omega,e',x',?_,?_,c5⟩
   ·rw[show j-i=(j-(i+1))+1 by omega,Q7];exact c3
   ·rw[show j-i=(j-(i+1))+1 by omega,Q7];exact c4
theorem jgi {kt:TypeId}{ud:TypeDesc}(hu:E.P.underlying kt=some ud){k:V}{k':Value}(hk:VRel O k k'){es:List (V × V × Nat)}{xs:List MapEntry}{r:Option Nat}(hr:ERel O es xs)(h:jcj E kt k es 0=some r) :
  ∃r',(Instr.findKey kt k' xs).run E.P w=.ok r' w/\(r=none->r'=none)/\∀j,r=some j->j<es.length/\∃e x,es[j]? = some e/\xs[j]? = some x/\r'=some (j,x.val):=by
 by_cases hp:jhM E kt=true
 ·obtain⟨r',q1,q2,q3⟩:=jij hu hp hk es xs 0 r hr h;refine⟨r',by simp[Instr.findKey,jag hu,q1],q2,λj hj => ?_⟩;have:=q3 j hj;simpa using this
 ·cases xs with
  |nil =>
   have:es=[]:=Q6 (by have:=hr.1;simpa using this);subst this;simp only[jcj,Ki]at h;subst h;exact⟨none,by simp[Instr.findKey,jag hu,Instr.findNow],λ_=>rfl,λj h=>by cases h⟩
  | cons x xs =>
   obtain⟨r',q1,q2,q3⟩:=jf7 (w:=w) hk es (x::xs) 0 r hr h
   have hn:Instr.findNow ud k' (x::xs) 0=none:=by
    have:Instr.sameNow ud k' x.key=none:=by
     simp only[jhM,hu]at hp;cases ud<;>first|(simp at hp;done)|(simp[Instr.sameNow];done)
    simp[Instr.findNow,this]
   refine⟨r',by simp[Instr.findKey,jag hu,hn,q1],q2,λj hj => ?_⟩;have:=q3 j hj;simpa using this
theorem jgY(em:Bool):∀(d n:Nat) (t:TypeId) (v:V) (v':Value),d<=n->VRel O v v'->jcY E d t v=true->(Instr.checkKey em n t v').run E.P w=.ok () w:=by
 intro d
 induction d with
 |zero=>intro n t v v' hd hv h;simp[jcY]at h
 | succ d ih =>
  intro n t v v' hd hv h;obtain⟨n,rfl⟩:∃m,n=m+1:=⟨n-1,aa⟩;simp only[jcY]at h;split at h
  ·rename_i hu;simp[Instr.checkKey,jag hu]
  ·rename_i hu;simp[Instr.checkKey,jag hu]
  ·rename_i hu;simp[Instr.checkKey,jag hu]
  ·rename_i fields cs hu;obtain⟨xs,rfl,lx⟩:=hv.agg_inv;rw[Instr.checkKey];simp only[Sem.run_bind,jag hu,Result.andThen_ok];rw[<- Array.forIn_toList];generalize fields.toList=L at h
   induction L with
   |nil=>simp
   | cons f L ihL =>
    rw[Ks,Qt]at h;obtain⟨h1,h2⟩:=h;have ihL:=ihL h2;by_cases hn:f.name = "_"
    ·simp only[Vd,Sem.run_bind,hn,ne_eq,not_true_eq_false,Kn,Sem.run_pure,Result.andThen_ok];exact ihL
    ·have hn':(f.name== "_")=false:=by simpa using hn
     rw[hn',Xq]at h1;split at h1
     ·rename_i s g hs hg;split at h1
      ·rename_i x hx;obtain⟨y,p1,r1⟩:=jeN (w:=w) (E:=E) hg hs lx hx;have p2:=ih n f.type x y aa r1 h1;simp only[Vd,Sem.run_bind,hn,ne_eq,Je,Kl,p1,p2,Result.andThen_ok,Sem.run_pure];exact ihL
      ·simp at h1
     ·simp at h1
  ·simp at h
end
structure Upd (w w':World) (c:Nat) (ob:Obj):Prop where
 os:w'.os=w.os
 tape:w'.tape=w.tape
 output:w'.output=w.output
 size:w'.heap.size=w.heap.size
 here:w'.heap[c]? = some ob
 other:∀k,k ≠ c->w'.heap[k]? = w.heap[k]?
theorem Upd.below {w w':World}{c B:Nat}{ob:Obj}(h:Upd w w' c ob)(hB:B<=c):Below B w w' :=
 ⟨h.os,h.tape,h.output,Vc h.size.symm,λk hk=>h.other k aa⟩
theorem Upd.setRow {w:World}{c:Nat}{xs ys:Array Value}{t:TypeId}{fr:Nat × Nat}(h:w.heap[c]? = some (.cells xs t fr)):Upd w (w.setRow c ys) c (.cells ys t fr) :=
 ⟨rfl,rfl,rfl,ae,setRow_heap w c xs ys t fr h,λk hk=>setRow_other w c k ys hk⟩
theorem Upd.putObj {w:World}{c:Nat}{ob:Obj}(h:c<w.heap.size):Upd w { w with heap:=w.heap.setIfInBounds c ob } c ob :=
 ⟨rfl,rfl,rfl,ae,by simp[h],λk hk=>by simp[Ne.symm hk]⟩
theorem jcd {w w':World}{b:Nat}(h:w'.heap[b]? = w.heap[b]?)(i:Nat):w'.cell? ⟨b,i,none⟩=w.cell? ⟨b,i,none⟩:=by
 simp[World.cell?,h]
theorem jdl {w:World}{b i:Nat}{x:Value}(h:w.cell? ⟨b,i,none⟩=some x):b<w.heap.size:=by
 unfold World.cell? at h;split at h
 ·exact(Qi.1 ‹_›).1
 ·simp at h
section
variable {O:Ctx}{U:S}{w w':World}
theorem WRel.at(h:WRel O U w){a c:Nat}{o:AObj}(hb:O.blk a=some c)(ho:U.heap[a]? = some o):∃ob,w.heap[c]? = some ob/\ORel O o ob/\O.base<=c/\(o.isRo=false->∀i,O.pin c i=none):=by
 rcases h.live a o ho with⟨_,hn⟩|⟨c',ob,h1,h2,h3⟩
 ·rw[hb]at hn;cases hn
 rw[hb]at h1;cases h1;exact⟨ob,h2,h3⟩
theorem WRel.lt(h:WRel O U w){a c:Nat}(hb:O.blk a=some c):c<w.heap.size:=by
 have hd:=h.dom a c hb;obtain⟨ob,h2,_⟩:=h.at hb (o:=U.heap[a]) (by simp[hd]);exact(Qi.1 h2).1
theorem WRel.above(h:WRel O U w){a c:Nat}(hb:O.blk a=some c):O.base<=c:=by
 have hd:=h.dom a c hb;obtain⟨ob,h1,h2,h3⟩:=h.at hb (o:=U.heap[a]) (by simp[hd]);exact h3.1
theorem WRel.nopin(h:WRel O U w){a c:Nat}(hb:O.blk a=some c){o:AObj}(ho:U.heap[a]? = some o)(hr:o.isRo=false):O.base<=c/\∀i,O.pin c i=none:=by
 obtain⟨ob,h1,h2,h3,h4⟩:=h.at hb ho;exact⟨h3,h4 hr⟩
theorem WRel.same(h:WRel O U w)(hh:w'.heap=w.heap):WRel O U w':=by
 obtain⟨h1,h2,h3,h4,h5,h6,h7,h8,h9⟩:=h;refine⟨by rw[hh];exact h1,λb i x hx => ?_,λa o ho => ?_,h4,h5,λk e he => ?_,h7,h8,λc n hc=>by rw[hh];exact h9 c n hc⟩
 ·rw[jcd (w:=w) (by rw[hh])];exact h2 b i x hx
 ·rw[hh];exact h3 a o ho
 ·rw[hh];exact h6 k e he
theorem jkt {o:AObj}(h:o.isRo=false):o ≠ .dead:=by rintro rfl;simp[AObj.isRo]at h
theorem WRel.apart(h:WRel O U w){a a' c c':Nat}{o o':AObj}(hb:O.blk a=some c)(hb':O.blk a'=some c')(ho:U.heap[a]? = some o)(ho':U.heap[a']? = some o')(hd:o ≠ .dead)(hd':o' ≠ .dead)
  (hne:¬a=a'):c' ≠ c:=λe=>hne (h.inj a a' c hb (e ▸ hb') (λx hx=>by rw[ho]at hx;cases hx;exact hd) (λx hx=>by rw[ho']at hx;cases hx;exact hd'))
theorem WRel.inj_set(h:WRel O U w){a:Nat}{o o0:AObj}(h0:U.heap[a]? = some o0)(hd:o0 ≠ .dead) :
  ∀x x' c,O.blk x=some c->O.blk x'=some c->(∀p:AObj,(U.set a o).heap[x]? = some p->p ≠ .dead)->(∀p:AObj,(U.set a o).heap[x']? = some p->p ≠ .dead)->x=x':=by
 have key:∀x:Nat,(∀p:AObj,(U.set a o).heap[x]? = some p->p ≠ .dead)->∀p:AObj,U.heap[x]? = some p->p ≠ .dead:=by
  intro x hx p hp;by_cases e:a=x
  ·subst e;rw[h0]at hp;cases hp;exact hd
  ·exact hx p (by simp only[S.set,J8];rw[Ke e];exact hp)
 exact λx x' c h1 h2 h3 h4=>h.inj x x' c h1 h2 (key x h3) (key x' h4)
def AObj.isMem:AObj->Bool
 | .cells _ _=>true
 |_=>false
theorem WRel.sizes_upd(h:WRel O U w){c:Nat}{ob:Obj}(hu:Upd w w' c ob)(hk:∀xs t f,w.heap[c]? = some (.cells xs t f)->∃ys t' f',ob=.cells ys t' f'/\ys.size=xs.size) :
  ∀c' n,O.siz c'=some n->∃xs t f,w'.heap[c']? = some (.cells xs t f)/\xs.size=n:=by
 intro c' n hc;obtain⟨xs,t,f,h1,h2⟩:=h.sizes c' n hc;by_cases e:c'=c
 ·subst e;obtain⟨ys,t',f',e1,e2⟩:=hk xs t f h1;exact⟨ys,t',f',by rw[hu.here,e1],aa⟩
 ·exact⟨xs,t,f,by rw[hu.other c' e];exact h1,h2⟩
theorem WRel.upd(h:WRel O U w){a c:Nat}{o o0:AObj}{ob:Obj}(hu:Upd w w' c ob)(hb:O.blk a=some c)(h0:U.heap[a]? = some o0)(hr:o0.isRo=false)(ho:ORel O o ob)
  (hk:o0.isMem=true->∀xs t f,w.heap[c]? = some (.cells xs t f)->∃ys t' f',ob=.cells ys t' f'/\ys.size=xs.size:=by(intro e;cases e)):Moved O O (U.set a o) w w':=by
 have hnp:=h.nopin hb h0 hr
 have hk':∀xs t f,w.heap[c]? = some (.cells xs t f)->∃ys t' f',ob=.cells ys t' f'/\ys.size=xs.size:=by
  intro xs t f hx;refine hk ?_ xs t f hx;obtain⟨ob',g1,g2,_⟩:=h.at hb h0;rw[hx]at g1;cases g1;cases o0<;>simp[ORel,AObj.isRo,AObj.isMem]at g2 hr ⊢
 refine⟨Ctx.le.refl _,⟨?_,?_,?_,?_,h.inj_set h0 (jkt hr),?_,h.tokdom,h.tokinj,h.sizes_upd hu hk'⟩,hu.below hnp.1⟩
 ·rw[hu.size];exact h.size
 ·intro b i x hx;have hne:b ≠ c:=by intro e;subst e;rw[hnp.2 i]at hx;simp at hx
  rw[jcd (hu.other b hne)];exact h.pins b i x hx
 ·intro a' o' ho';simp only[S.set,J8]at ho';split at ho'
  ·rename_i e;subst e;split at ho'
   ·simp at ho';subst ho';exact .inr ⟨c,ob,hb,hu.here,ho,hnp.1,λ_=>hnp.2⟩
   ·simp at ho'
  ·rename_i hne
   rcases h.live a' o' ho' with hrv|⟨c',ob',h1,h2,h3⟩
   ·exact .inl hrv
   right;by_cases hdd:o'=.dead
   ·subst hdd;by_cases e:c'=c
    ·subst e;exact⟨c',ob,h1,hu.here,trivial,h3.2⟩
    ·exact⟨c',ob',h1,by rw[hu.other c' e];exact h2,h3⟩
   have:c' ≠ c:=h.apart hb h1 h0 ho' (jkt hr) hdd hne;exact⟨c',ob',h1,by rw[hu.other c' this];exact h2,h3⟩
 ·intro a' c' h';simpa[S.set]using h.dom a' c' h'
 ·intro k e he;obtain⟨b,pos,spare,s,t,xs,h1,h2,h3,h4,h5,h6⟩:=h.toks k e he;have:b ≠ c:=λe=>h6 a (e ▸ hb)
  exact⟨b,pos,spare,s,t,xs,h1,by rw[hu.other b this];exact h2,h3,h4,h5,h6⟩
def Ctx.freeze(O:Ctx)(w:World)(c:Nat):Ctx:={ O with pin:=λb i=>if b=c then w.cell? ⟨c,i,none⟩else O.pin b i }
theorem WRel.freezeF(h:WRel O U w){a c:Nat}(hb:O.blk a=some c){cs:List V}{t:TypeId}{xs:Array Value}{fr:Nat × Nat}(ho:U.heap[a]? = some (.cells cs t))(hx:w.heap[c]? = some (.cells xs t (0,0)))
  (hu:Upd w w' c (.cells xs t fr)):Moved O (O.freeze w c) (U.set a (.ro cs t)) w w':=by
 obtain⟨ob,g1,g2,g3,g4⟩:=h.at hb ho;have g4:=g4 rfl;rw[hx]at g1;cases g1
 have hle:O.le (O.freeze w c):=by
  refine⟨rfl,λ_ _ h=>h,λb i x hq => ?_,λ_ _ _ h=>h,λb i x hq => ?_,λ_ _ h=>h⟩
  ·have hne:b ≠ c:=by intro e;subst e;rw[g4 i]at hq;simp at hq
   simp only[Ctx.freeze];rw[Ke hne];exact hq
  ·simp only[Ctx.freeze]at hq;split at hq
   ·rename_i e;subst e;exact .inr g3
   ·exact .inl hq
 refine⟨hle,⟨?_,?_,?_,?_,h.inj_set ho (by intro e;cases e),?_,h.tokdom,h.tokinj,h.sizes_upd hu (λxs' t' f' e=>by rw[hx]at e;cases e;exact⟨_,_,_,rfl,rfl⟩)⟩,hu.below g3⟩
 ·rw[hu.size];exact h.size
 ·intro b i x hx';simp only[Ctx.freeze]at hx';split at hx'
  ·rename_i e;subst e;simp only[World.cell?,hx]at hx';simp only[World.cell?,hu.here];exact hx'
  ·rename_i hne;rw[jcd (hu.other b hne)];exact h.pins b i x hx'
 ·intro a' o' ho';simp only[S.set,J8]at ho';split at ho'
  ·rename_i e;subst e;split at ho'
   ·simp at ho';subst ho';refine .inr ⟨c,_,hb,hu.here,?_,g3,λhr=>by simp[AObj.isRo]at hr⟩;exact ORel.mono hle ⟨rfl,rfl,g2.2.2.1,g2.2.2.2⟩
   ·simp at ho'
  ·rename_i hne
   rcases h.live a' o' ho' with hrv|⟨c',ob',h1,h2,h3,h4,h5⟩
   ·exact .inl hrv
   right;by_cases hdd:o'=.dead
   ·subst hdd;by_cases e:c'=c
    ·subst e;exact⟨c',_,h1,hu.here,trivial,h4,λhr=>by simp[AObj.isRo]at hr⟩
    ·exact⟨c',ob',h1,by rw[hu.other c' e];exact h2,trivial,h4,λhr=>by simp[AObj.isRo]at hr⟩
   have hcc:c' ≠ c:=h.apart hb h1 ho ho' (by intro e;cases e) hdd hne;exact⟨c',ob',h1,by rw[hu.other c' hcc];exact h2,h3.mono hle,h4,λhr i=>by simp only[Ctx.freeze];rw[Ke hcc];exact h5 hr i⟩
 ·intro a' c' h';simpa[S.set]using h.dom a' c' h'
 ·intro k e he;obtain⟨b,pos,spare,s,t,xs,h1,h2,h3,h4,h5,h6⟩:=h.toks k e he;have hbc:b ≠ c:=λe=>h6 a (e ▸ hb)
  exact⟨b,pos,spare,s,t,xs,h1,by rw[hu.other b hbc];exact h2,h3,h4,λi hi=>by simp only[Ctx.freeze];rw[Ke hbc];exact h5 i hi,h6⟩
def Ctx.push(O:Ctx)(a c:Nat):Ctx:={ O with blk:=λx=>if x=a then some c else O.blk x }
theorem jbB(w:World)(o:Obj)(k:Nat)(h:k<w.heap.size):(w.heap.push o)[k]? = w.heap[k]? := by
 rw[Array.getElem?_push,Ke aa]
theorem jgZ(B:Nat)(w:World)(o:Obj)(hB:B<=w.heap.size):Below B w { w with heap:=w.heap.push o } :=
 ⟨rfl,rfl,rfl,ae,λk hk=>jbB w o k aa⟩
theorem WRel.fresh(h:WRel O U w)(i:Nat):O.pin w.heap.size i=none:=by
 cases hp:O.pin w.heap.size i with
 |none=>rfl
 |some x=>have:=jdl (h.pins _ _ _ hp);omega
theorem WRel.toklt(h:WRel O U w){k e b p:Nat}{q}(he:U.toks[k]? = some e)(ht:O.tok k e=some (b,p,q)):b<w.heap.size:=by
 obtain⟨b',pos,spare,s,t,xs,h1,h2,_⟩:=h.toks k e he;rw[ht]at h1;cases h1;exact(Qi.1 h2).1
theorem WRel.sizes_push(h:WRel O U w)(ob:Obj):∀c' n,O.siz c'=some n->∃xs t f,(w.heap.push ob)[c']? = some (.cells xs t f)/\xs.size=n:=by
 intro c' n hc;obtain⟨xs,t,f,h1,h2⟩:=h.sizes c' n hc;exact⟨xs,t,f,by rw[jbB w ob c' (Qi.1 h1).1];exact h1,h2⟩
theorem WRel.push(h:WRel O U w){o:AObj}{ob:Obj}(ho:ORel O o ob) :
  Moved O (O.push U.heap.length w.heap.size) (U.push o) w { w with heap:=w.heap.push ob }:=by
 have hle:O.le (O.push U.heap.length w.heap.size):=by
  refine⟨rfl,λb c hb => ?_,λ_ _ _ h=>h,λ_ _ _ h=>h,λ_ _ _ h=>.inl h,λ_ _ h=>h⟩;have:=h.dom b c hb;simp only[Ctx.push];rw[Ke aa];exact hb
 refine⟨hle,⟨?_,?_,?_,?_,?_,?_,h.tokdom,h.tokinj,h.sizes_push ob⟩,jgZ _ _ _ h.size⟩
 ·have:=h.size;simp[Ctx.push];omega
 ·intro b i x hx;have hx':=h.pins b i x hx;have:=jdl hx';rw[jcd (w:=w) (by exact jbB w ob b this)];exact hx'
 ·intro a o' ho';simp only[S.push,Vx]at ho';split at ho'
  ·rename_i hlt
   rcases h.live a o' ho' with⟨hrv,hn⟩|⟨c,ob',h1,h2,h3,h4⟩
   ·exact .inl ⟨hrv,by simp only[Ctx.push];rw[Ke aa];exact hn⟩
   refine .inr ⟨c,ob',hle.blk _ _ h1,?_,h3.mono hle,h4⟩;rw[<- h2];exact jbB w ob c (Qi.1 h2).1
  ·rename_i hge
   have ha:a=U.heap.length:=by
    cases hk:a-U.heap.length with
    |zero=>omega
    |succ n=>rw[hk]at ho';simp at ho'
   subst ha;simp at ho';subst ho';exact .inr ⟨w.heap.size,ob,by simp[Ctx.push],ae,ho.mono hle,h.size,λ_ i=>h.fresh i⟩
 ·intro a c hb;simp only[Ctx.push]at hb;simp only[S.push,Kk,Qh,Qr];split at hb
  ·omega
  ·have:=h.dom a c hb;omega
 ·intro a a' c h1 h2 d1 d2;simp only[Ctx.push]at h1 h2;split at h1<;>split at h2
  ·omega
  ·simp at h1;subst h1;have:=h.lt h2;omega
  ·simp at h2;subst h2;have:=h.lt h1;omega
  ·have key:∀x c,O.blk x=some c->(∀p:AObj,(U.push o).heap[x]? = some p->p ≠ .dead)->∀p:AObj,U.heap[x]? = some p->p ≠ .dead:=by
    intro x c hx hq p hp;refine hq p ?_;simp only[S.push];rw[Kj (K4.1 hp).1];exact hp
   exact h.inj a a' c h1 h2 (key a c h1 d1) (key a' c h2 d2)
 ·intro k e he;obtain⟨b,pos,spare,s,t,xs,h1,h2,h3,h4,h5,h6⟩:=h.toks k e he;have hlt:=(Qi.1 h2).1;refine⟨b,pos,spare,s,t,xs,h1,?_,h3,h4,h5,λa ha => ?_⟩
  ·rw[<- h2];exact jbB w ob b hlt
  ·simp only[Ctx.push]at ha;split at ha
   ·simp at ha;omega
   ·exact h6 a ha
def Ctx.pinRow(O:Ctx)(b n:Nat)(xs:Array Value):Ctx:={ O with pin:=λc i=>if c=b then(if i<n then xs[i]? else none)else O.pin c i }
theorem WRel.pinRowF(h:WRel O U w){n:Nat}{xs:Array Value}{t:TypeId}(fr:Nat × Nat) :
  Moved O (O.pinRow w.heap.size n xs) U w { w with heap:=w.heap.push (.cells xs t fr) }:=by
 have hle:O.le (O.pinRow w.heap.size n xs):=by
  refine⟨rfl,λ_ _ h=>h,λb i x hx => ?_,λ_ _ _ h=>h,λb i x hx => ?_,λ_ _ h=>h⟩
  ·simp only[Ctx.pinRow];rw[Ke (by intro e;subst e;rw[h.fresh i]at hx;simp at hx)];exact hx
  ·simp only[Ctx.pinRow]at hx;split at hx
   ·rename_i e;exact .inr (e ▸ h.size)
   ·exact .inl hx
 refine⟨hle,⟨?_,?_,?_,h.dom,h.inj,?_,h.tokdom,h.tokinj,h.sizes_push _⟩,jgZ _ _ _ h.size⟩
 ·have:=h.size;simp[Ctx.pinRow];omega
 ·intro b i x hx;simp only[Ctx.pinRow]at hx;split at hx
  ·rename_i e;subst e;split at hx
   ·simp[World.cell?,hx]
   ·simp at hx
  ·have hx':=h.pins b i x hx;have:=jdl hx';rw[jcd (w:=w) (by exact jbB w _ b this)];exact hx'
 ·intro a o ho
  rcases h.live a o ho with hrv|⟨c,ob',h1,h2,h3,h4,h5⟩
  ·exact .inl hrv
  have hlt:=(Qi.1 h2).1;refine .inr ⟨c,ob',h1,?_,h3.mono hle,h4,λhr i => ?_⟩
  ·rw[<- h2];exact jbB w _ c hlt
  ·simp only[Ctx.pinRow];rw[Ke aa];exact h5 hr i
 ·intro k e he;obtain⟨b,pos,spare,s,t',xs',h1,h2,h3,h4,h5,h6⟩:=h.toks k e he;have hlt:=(Qi.1 h2).1;refine⟨b,pos,spare,s,t',xs',h1,?_,h3,h4,λi hi => ?_,h6⟩
  ·rw[<- h2];exact jbB w _ b hlt
  ·simp only[Ctx.pinRow];rw[Ke aa];exact h5 i hi
theorem WRel.pinRow(h:WRel O U w){n:Nat}{xs:Array Value}{t:TypeId} :
  Moved O (O.pinRow w.heap.size n xs) U w { w with heap:=w.heap.push (.cells xs t (0,0)) }:=h.pinRowF (0,0)
def Ctx.setTok(O:Ctx)(k e:Nat)(x:Nat × Nat × Nat × Nat):Ctx:={ O with tok:=λk' e'=>if k'=k/\e'=e then some x else O.tok k' e' }
theorem WRel.newTok(h:WRel O U w){b pos spare s:Nat}{xs:Array Value}{t:TypeId}(hb:w.heap[b]? = some (.cells xs t (0,0)))(hs:xs.size=pos+spare*s)(hbase:O.base<=b)
  (hp:∀i,pos<=i->O.pin b i=none) (hn:∀a,O.blk a ≠ some b) (hnt:∀k e p q,U.toks[k]? = some e->O.tok k e=some (p,q)->p ≠ b) :
  Moved O (O.setTok U.toks.length 0 (b,pos,spare,s)) ⟨U.heap,U.toks++[0]⟩ w w:=by
 have hno:∀e x,O.tok U.toks.length e=some x->False:=by
  intro e x hx;obtain⟨e',h1,_⟩:=h.tokdom _ _ _ hx;simp at h1
 have hle:O.le (O.setTok U.toks.length 0 (b,pos,spare,s)):=by
  refine⟨rfl,λ_ _ h=>h,λ_ _ _ h=>h,λk e x hx => ?_,λ_ _ _ h=>.inl h,λ_ _ h=>h⟩;simp only[Ctx.setTok];rw[Ke (by rintro⟨rfl,rfl⟩;exact hno _ _ hx)];exact hx
 have hget:∀k e,(U.toks++[0])[k]? = some e->(U.toks[k]? = some e/\k<U.toks.length)\/(k=U.toks.length/\e=0):=by
  intro k e he;rw[Vx]at he;split at he
  ·exact .inl ⟨he,‹_›⟩
  ·refine .inr ?_;cases hk:k-U.toks.length with
   |zero=>rw[hk]at he;simp at he;exact⟨aa,he.symm⟩
   |succ n=>rw[hk]at he;simp at he
 refine⟨hle,⟨h.size,h.pins,λa o ho => ?_,h.dom,h.inj,?_,?_,?_,h.sizes⟩,Below.refl _ _⟩
 ·rcases h.live a o ho with hrv|⟨c,ob,h1,h2,h3,h4⟩
  ·exact .inl hrv
  exact .inr ⟨c,ob,h1,h2,h3.mono hle,h4⟩
 ·intro k e he
  rcases hget k e he with⟨he',hk⟩|⟨rfl,rfl⟩
  ·obtain⟨b',pos',spare',s',t',xs',h1,h2,h3,h4,h5,h6⟩:=h.toks k e he';exact⟨b',pos',spare',s',t',xs',hle.tok _ _ _ h1,h2,h3,h4,h5,h6⟩
  ·exact⟨b,pos,spare,s,t,xs,by simp[Ctx.setTok],hb,hs,hbase,hp,hn⟩
 ·intro k e x hx;simp only[Ctx.setTok]at hx;split at hx
  ·rename_i hc;obtain⟨rfl,rfl⟩:=hc;exact⟨0,ae,Kw _⟩
  ·obtain⟨e',h1,h2⟩:=h.tokdom _ _ _ hx;refine⟨e',?_,h2⟩;rw[Kj (K4.1 h1).1];exact h1
 ·intro k k' e e' p q q' he he' h1 h2;simp only[Ctx.setTok]at h1 h2
  rcases hget k e he with⟨a1,a2⟩|⟨rfl,rfl⟩<;>rcases hget k' e' he' with⟨b1,b2⟩|⟨rfl,rfl⟩
  ·rw[Ke aa]at h1 h2;exact h.tokinj k k' e e' p q q' a1 b1 h1 h2
  ·rw[Ke aa]at h1;rw[Kg ⟨rfl,rfl⟩]at h2;cases h2;exact absurd rfl (hnt k e _ _ a1 h1)
  ·rw[Ke aa]at h2;rw[Kg ⟨rfl,rfl⟩]at h1;cases h1;exact absurd rfl (hnt k' e' _ _ b1 h2)
  ·rfl
theorem Upd.refl {w:World}{c:Nat}{ob:Obj}(h:w.heap[c]? = some ob):Upd w w c ob:=⟨rfl,rfl,rfl,rfl,h,λ_ _=>rfl⟩
def Ctx.setSiz(O:Ctx)(c n:Nat):Ctx:={ O with siz:=λk=>if k=c then some n else O.siz k }
theorem WRel.setSiz(h:WRel O U w){c n:Nat}{xs:Array Value}{t:TypeId}{f:Nat × Nat}(hx:w.heap[c]? = some (.cells xs t f))(hn:xs.size=n):Moved O (O.setSiz c n) U w w:=by
 have hle:O.le (O.setSiz c n):=by
  refine⟨rfl,λ_ _ h=>h,λ_ _ _ h=>h,λ_ _ _ h=>h,λ_ _ _ h=>.inl h,λk m hk => ?_⟩;simp only[Ctx.setSiz];split
  ·rename_i e;subst e;obtain⟨ys,t',f',h1,h2⟩:=h.sizes _ _ hk;rw[hx]at h1;cases h1;rw[<- hn,h2]
  ·exact hk
 refine⟨hle,⟨h.size,h.pins,λa o ho => ?_,h.dom,h.inj,h.toks,h.tokdom,h.tokinj,λk m hk => ?_⟩,Below.refl _ _⟩
 ·rcases h.live a o ho with hrv|⟨c,ob,h1,h2,h3,h4⟩
  ·exact .inl hrv
  exact .inr ⟨c,ob,h1,h2,h3.mono hle,h4⟩
 ·simp only[Ctx.setSiz]at hk;split at hk
  ·rename_i e;subst e;cases hk;exact⟨xs,t,f,hx,hn⟩
  ·exact h.sizes _ _ hk
theorem WRel.aliasNew(h:WRel O U w){a c:Nat}{o:AObj}{ob:Obj}(hb:O.blk a=some c)(hx:w.heap[c]? = some ob)(ho:ORel O o ob)(hnp:o.isRo=false->∀i,O.pin c i=none)
  (honly:∀x,O.blk x=some c->(∀p,U.heap[x]? = some p->p ≠ .dead)->False):Moved O (O.push U.heap.length c) (U.push o) w w:=by
 have hle:O.le (O.push U.heap.length c):=by
  refine⟨rfl,λb c hb => ?_,λ_ _ _ h=>h,λ_ _ _ h=>h,λ_ _ _ h=>.inl h,λ_ _ h=>h⟩;have:=h.dom b c hb;simp only[Ctx.push];rw[Ke aa];exact hb
 have key:∀x c,O.blk x=some c->(∀p:AObj,(U.push o).heap[x]? = some p->p ≠ .dead)->∀p:AObj,U.heap[x]? = some p->p ≠ .dead:=by
  intro x c hx hq p hp;refine hq p ?_;simp only[S.push];rw[Kj (K4.1 hp).1];exact hp
 refine⟨hle,⟨h.size,h.pins,?_,?_,?_,?_,h.tokdom,h.tokinj,h.sizes⟩,Below.refl _ _⟩
 ·intro a' o' ho';simp only[S.push,Vx]at ho';split at ho'
  ·rename_i hlt
   rcases h.live a' o' ho' with⟨hrv,hn⟩|⟨c',ob',h1,h2,h3,h4⟩
   ·exact .inl ⟨hrv,by simp only[Ctx.push];rw[Ke aa];exact hn⟩
   exact .inr ⟨c',ob',hle.blk _ _ h1,h2,h3.mono hle,h4⟩
  ·rename_i hge
   have ha:a'=U.heap.length:=by
    cases hk:a'-U.heap.length with
    |zero=>omega
    |succ n=>rw[hk]at ho';simp at ho'
   subst ha;simp at ho';subst ho';exact .inr ⟨c,ob,by simp[Ctx.push],hx,ho.mono hle,h.above hb,hnp⟩
 ·intro x c' hb';simp only[Ctx.push]at hb';simp only[S.push,Kk,Qh,Qr];split at hb'
  ·omega
  ·have:=h.dom x c' hb';omega
 ·intro x x' c' h1 h2 d1 d2;simp only[Ctx.push]at h1 h2;split at h1<;>split at h2
  ·omega
  ·simp at h1;subst h1;exact(honly x' h2 (key x' c h2 d2)).elim
  ·simp at h2;subst h2;exact(honly x h1 (key x c h1 d1)).elim
  ·exact h.inj x x' c' h1 h2 (key x c' h1 d1) (key x' c' h2 d2)
 ·intro k e he;obtain⟨b,pos,spare,s,t,xs,h1,h2,h3,h4,h5,h6⟩:=h.toks k e he;refine⟨b,pos,spare,s,t,xs,h1,h2,h3,h4,h5,λx hx' => ?_⟩;simp only[Ctx.push]at hx';split at hx'
  ·simp at hx';subst hx';exact h6 a hb
  ·exact h6 x hx'
theorem WRel.rename(h:WRel O U w){a c:Nat}{o o0:AObj}{ob:Obj}(hu:Upd w w' c ob)(hb:O.blk a=some c)(h0:U.heap[a]? = some o0)(hr:o0.isRo=false)(ho:ORel O o ob)
  (hk:∀xs t f,w.heap[c]? = some (.cells xs t f)->∃ys t' f',ob=.cells ys t' f'/\ys.size=xs.size):Moved O (O.push U.heap.length c) ((U.set a .dead).push o) w w':=by
 have hnp:=h.nopin hb h0 hr;have m1:=h.upd (o:=.dead) hu hb h0 hr (by cases ob<;>trivial) (λ_=>hk);have e:(U.set a .dead).heap.length=U.heap.length:=by simp[S.set]
 have hlt:=(K4.1 h0).1
 have m2:=m1.rel.aliasNew hb hu.here ho (λ_=>hnp.2) (λx hx hd=>by
  have hxa:¬a=x:=by
   rintro rfl;exact hd .dead (by simp[S.set,hlt]) rfl
  refine hxa (h.inj a x c hb hx (λp hp=>by rw[h0]at hp;cases hp;exact jkt hr) (λp hp=>hd p ?_));simp only[S.set,J8];rw[Ke hxa];exact hp)
 rw[e]at m2;exact m1.trans m2
end
section
variable {O:Ctx}{U:S}{w w':World}
theorem jcT {l:List Nat}{k v k' e:Nat}(h:(l.set k v)[k']? = some e):(k'=k/\e=v/\k<l.length)\/(k' ≠ k/\l[k']? = some e):=by
 rw[J8]at h;split at h
 ·rename_i hk;split at h
  ·simp at h;exact .inl ⟨hk.symm,h.symm,aa⟩
  ·simp at h
 ·rename_i hk;exact .inr ⟨λe=>hk e.symm,h⟩
theorem WRel.moveTok(h:WRel O U w){k e:Nat}(hk:U.toks[k]? = some e){b pos spare s:Nat}{xs:Array Value}{t:TypeId}(hb:w.heap[b]? = some (.cells xs t (0,0)))(hs:xs.size=pos+spare*s)(hbase:O.base<=b)
  (hp:∀i,pos<=i->O.pin b i=none) (hn:∀a,O.blk a ≠ some b) (hnt:∀k' e p q,k' ≠ k->U.toks[k']? = some e->O.tok k' e=some (p,q)->p ≠ b) :
  Moved O (O.setTok k (e+1) (b,pos,spare,s)) ⟨U.heap,U.toks.set k (e+1)⟩ w w:=by
 have hno:∀x,O.tok k (e+1)=some x->False:=by
  intro x hx;obtain⟨e',h1,h2⟩:=h.tokdom _ _ _ hx;rw[hk]at h1;simp at h1;omega
 have hle:O.le (O.setTok k (e+1) (b,pos,spare,s)):=by
  refine⟨rfl,λ_ _ h=>h,λ_ _ _ h=>h,λk' e' x hx => ?_,λ_ _ _ h=>.inl h,λ_ _ h=>h⟩;simp only[Ctx.setTok];rw[Ke (by rintro⟨rfl,rfl⟩;exact hno _ hx)];exact hx
 refine⟨hle,⟨h.size,h.pins,λa o ho => ?_,h.dom,h.inj,?_,?_,?_,h.sizes⟩,Below.refl _ _⟩
 ·rcases h.live a o ho with hrv|⟨c,ob,h1,h2,h3,h4⟩
  ·exact .inl hrv
  exact .inr ⟨c,ob,h1,h2,h3.mono hle,h4⟩
 ·intro k' e' he
  rcases jcT he with⟨rfl,rfl,_⟩|⟨hne,he'⟩
  ·exact⟨b,pos,spare,s,t,xs,by simp[Ctx.setTok],hb,hs,hbase,hp,hn⟩
  ·obtain⟨b',pos',spare',s',t',xs',h1,h2,h3,h4,h5,h6⟩:=h.toks k' e' he';exact⟨b',pos',spare',s',t',xs',hle.tok _ _ _ h1,h2,h3,h4,h5,h6⟩
 ·intro k' e' x hx;simp only[Ctx.setTok]at hx;have hklt:=(K4.1 hk).1;split at hx
  ·rename_i hc;obtain⟨rfl,rfl⟩:=hc;exact⟨e+1,by simp[hklt],Kw _⟩
  ·obtain⟨e2,h1,h2⟩:=h.tokdom _ _ _ hx;by_cases hkk:k'=k
   ·subst hkk;rw[hk]at h1;simp at h1;exact⟨e+1,by simp[hklt],aa⟩
   ·exact⟨e2,by rw[Kh (Ne.symm hkk)];exact h1,h2⟩
 ·intro k1 k2 e1 e2 p q q' he1 he2 h1 h2;simp only[Ctx.setTok]at h1 h2
  rcases jcT he1 with⟨rfl,rfl,_⟩|⟨a1,a2⟩<;>rcases jcT he2 with⟨rfl,rfl,_⟩|⟨b1,b2⟩
  ·rfl
  ·rw[Kg ⟨rfl,rfl⟩]at h1;cases h1;rw[Ke (by rintro⟨rfl,_⟩;exact b1 rfl)]at h2;exact absurd rfl (hnt k2 e2 _ _ b1 b2 h2)
  ·rw[Kg ⟨rfl,rfl⟩]at h2;cases h2;rw[Ke (by rintro⟨rfl,_⟩;exact a1 rfl)]at h1;exact absurd rfl (hnt k1 e1 _ _ a1 a2 h1)
  ·rw[Ke (by rintro⟨rfl,_⟩;exact a1 rfl)]at h1;rw[Ke (by rintro⟨rfl,_⟩;exact b1 rfl)]at h2;exact h.tokinj k1 k2 e1 e2 p q q' a2 b2 h1 h2
def Ctx.pinAt(O:Ctx)(b pos:Nat)(ys:List Value):Ctx:={ O with pin:=λc i=>if c=b/\pos<=i/\i<pos+ys.length then ys[i-pos]? else O.pin c i }
theorem WRel.growTok(h:WRel O U w){k e:Nat}(hk:U.toks[k]? = some e){b pos spare s m:Nat}(ht:O.tok k e=some (b,pos,spare,s)){ys:List Value}(hm:m<=spare)(hys:ys.length=m*s)
  {cur:Array Value} {t:TypeId} (hb:w.heap[b]? = some (.cells cur t (0,0))) :
  Moved O ((O.pinAt b pos ys).setTok k (e+1) (b,pos+m*s,spare-m,s)) ⟨U.heap,U.toks.set k (e+1)⟩ w
   (w.setRow b (cur.toList.take pos++ys++cur.toList.drop (pos+ys.length)).toArray):=by
 obtain⟨b1,pos1,spare1,s1,t1,xs1,h1,h2,h3,h4,h5,h6⟩:=h.toks k e hk;rw[ht]at h1;cases h1;rw[hb]at h2;cases h2;have hu:=Upd.setRow (ys:=(cur.toList.take pos++ys++cur.toList.drop (pos+ys.length)).toArray) hb;have hms:m*s<=spare*s:=Jc _ hm
 have hsz:(cur.toList.take pos++ys++cur.toList.drop (pos+ys.length)).length=cur.size:=by
  simp;omega
 have hno:∀x,O.tok k (e+1)=some x->False:=by
  intro x hx;obtain⟨e',g1,g2⟩:=h.tokdom _ _ _ hx;rw[hk]at g1;simp at g1;omega
 have hle:O.le ((O.pinAt b pos ys).setTok k (e+1) (b,pos+m*s,spare-m,s)):=by
  refine⟨rfl,λ_ _ h=>h,λc i x hx => ?_,λk' e' x hx => ?_,λc i x hx => ?_,λ_ _ h=>h⟩
  ·simp only[Ctx.setTok,Ctx.pinAt];rw[Ke (by rintro⟨rfl,g1,g2⟩;rw[h5 i g1]at hx;simp at hx)];exact hx
  ·simp only[Ctx.setTok,Ctx.pinAt];rw[Ke (by rintro⟨rfl,rfl⟩;exact hno _ hx)];exact hx
  ·simp only[Ctx.setTok,Ctx.pinAt]at hx;split at hx
   ·rename_i g;exact .inr (g.1 ▸ h4)
   ·exact .inl hx
 have hklt:=(K4.1 hk).1;refine⟨hle,⟨?_,?_,?_,h.dom,h.inj,?_,?_,?_,h.sizes_upd hu (λxs' t' f' e=>by rw[hb]at e;cases e;exact⟨_,_,_,rfl,by simpa using hsz⟩)⟩,hu.below h4⟩
 ·rw[hu.size];exact h.size
 ·intro c i x hx;simp only[Ctx.setTok,Ctx.pinAt]at hx;by_cases hcb:c=b
  ·subst hcb;rw[World.cell?,hu.here];simp only[Uq,Ku,Kn,Xm];split at hx
   ·rename_i g;rw[K7,Jv (by simp;omega),Kj (by simp;omega)];rw[<- hx];congr 1;simp;omega
   ·rename_i g;have hx2:=h.pins c i x hx;rw[World.cell?,hb]at hx2;simp only[Uq,Ku,Kn]at hx2
    have hip:i<pos:=by
     rcases Ql i pos with hi|hi
     ·exact hi
     ·rw[h5 i hi]at hx;simp at hx
    rw[K7,Kj (by simp;omega),Jw,Kg hip,Xl];exact hx2
  ·rw[Ke (λg=>hcb g.1)]at hx;rw[jcd (hu.other c hcb)];exact h.pins c i x hx
 ·intro a o ho
  rcases h.live a o ho with hrv|⟨c,ob,g1,g2,g3,g4,g5⟩
  ·exact .inl hrv
  have hcb:c ≠ b:=λe=>h6 a (e ▸ g1)
  refine .inr ⟨c,ob,g1,by rw[hu.other c hcb];exact g2,g3.mono hle,g4,λhr i => ?_⟩;simp only[Ctx.setTok,Ctx.pinAt];rw[Ke (λg=>hcb g.1)];exact g5 hr i
 ·intro k' e' he
  rcases jcT he with⟨rfl,rfl,_⟩|⟨hne,he'⟩
  ·refine⟨b,pos+m*s,spare-m,s,t,_,by simp[Ctx.setTok],hu.here,?_,h4,λi hi => ?_,h6⟩
   ·rw[List.size_toArray,hsz,h3,Um];omega
   ·simp only[Ctx.setTok,Ctx.pinAt];rw[Ke (by rintro⟨_,_,g⟩;omega)];exact h5 i aa
  ·obtain⟨b',pos',spare',s',t',xs',g1,g2,g3,g4,g5,g6⟩:=h.toks k' e' he'
   have hbb:b' ≠ b:=by
    intro ee;subst ee;exact hne (h.tokinj k' k e' e _ _ _ he' hk g1 ht)
   refine⟨b',pos',spare',s',t',xs',hle.tok _ _ _ g1,by rw[hu.other b' hbb];exact g2,g3,g4,λi hi => ?_,g6⟩;simp only[Ctx.setTok,Ctx.pinAt];rw[Ke (λg=>hbb g.1)];exact g5 i hi
 ·intro k' e' x hx;simp only[Ctx.setTok,Ctx.pinAt]at hx;split at hx
  ·rename_i hc;obtain⟨rfl,rfl⟩:=hc;exact⟨e+1,by simp[hklt],Kw _⟩
  ·obtain⟨e2,g1,g2⟩:=h.tokdom _ _ _ hx;by_cases hkk:k'=k
   ·subst hkk;rw[hk]at g1;simp at g1;exact⟨e+1,by simp[hklt],aa⟩
   ·exact⟨e2,by rw[Kh (Ne.symm hkk)];exact g1,g2⟩
 ·intro k1 k2 e1 e2 p q q' he1 he2 g1 g2;simp only[Ctx.setTok,Ctx.pinAt]at g1 g2
  rcases jcT he1 with⟨rfl,rfl,_⟩|⟨a1,a2⟩<;>rcases jcT he2 with⟨rfl,rfl,_⟩|⟨b1,b2⟩
  ·rfl
  ·rw[Kg ⟨rfl,rfl⟩]at g1;cases g1;rw[Ke (by rintro⟨rfl,_⟩;exact b1 rfl)]at g2;exact absurd (h.tokinj k2 _ e2 e _ _ _ b2 hk g2 ht) b1
  ·rw[Kg ⟨rfl,rfl⟩]at g2;cases g2;rw[Ke (by rintro⟨rfl,_⟩;exact a1 rfl)]at g1;exact absurd (h.tokinj k1 _ e1 e _ _ _ a2 hk g1 ht) a1
  ·rw[Ke (by rintro⟨rfl,_⟩;exact a1 rfl)]at g1;rw[Ke (by rintro⟨rfl,_⟩;exact b1 rfl)]at g2;exact h.tokinj k1 k2 e1 e2 p q q' a2 b2 g1 g2
theorem jc0(h:WRel O U w){n:Nat}{p:V}{x:Value}{cs:List V}(hp:VRel O p x)(hc:jab U.heap n p=some cs){P:Program} :
  ∃a xs,x=.pointer (some a)/\(loadCells a n).run P w=.ok xs w/\LRel O cs xs/\(∀i,i<n->a.spot=none):=by
 unfold jab at hc;split at hc
 ·split at hc
  ·rename_i hn;simp at hc;subst hc;cases hp with
   | rptr cells a xs hq hr =>
    refine⟨a,((List.range n).map xs).toArray,rfl,?_,?_,λi hi=>(hq i aa).1⟩
    ·rcases Nat.eq_zero_or_pos n with h0|h0
     ·subst h0;rfl
     ·have hspot:=(hq 0 aa).1
      have:=run_loadCells_list (P:=P) w a ((List.range n).map xs) (λj v hj=>by
       rw[K4]at hj;obtain⟨hj1,hj2⟩:=hj;simp at hj1 hj2;subst hj2;have:=h.pins _ _ _ (hq j aa).2;obtain⟨ab,ao,asp⟩:=a;simp at hspot;subst hspot;simpa[jaW]using this)
      simpa using this
    ·refine LRel.mkList (by simp;omega) (λi a b => ?_);simp at a b ⊢;exact hr i aa
  ·simp at hc
 ·split at hc
  ·rename_i b off _ cs0 t hb;split at hc
   ·rename_i hn;simp at hc;subst hc;cases hp with
    | ptr _ _ c hblk =>
     obtain⟨ob,h1,h2,h3,h4⟩:=h.at hblk hb;cases ob<;>simp only[ORel]at h2;rename_i xs t' fr;obtain⟨rfl,rfl,hl,hr⟩:=h2;refine⟨_,((xs.toList.drop off).take n).toArray,rfl,?_,?_,λ_ _=>rfl⟩
     ·have:=run_loadCells_list (P:=P) w ⟨c,off,none⟩ ((xs.toList.drop off).take n) (λj v hj=>by
       rw[Jw]at hj;split at hj
       ·rw[X9]at hj;rw[jaW rfl];simp[World.cell?,h1];simpa using hj
       ·simp at hj)
      have hlen:((xs.toList.drop off).take n).length=n:=by simp;omega
      rw[hlen]at this;exact this
     ·refine LRel.mkList (by simp;omega) (λi a b => ?_);simp at a b ⊢;exact hr (off+i) aa aa
   ·simp at hc
  ·rename_i b off _ cs0 t hb;split at hc
   ·rename_i hn;simp at hc;subst hc;cases hp with
    | ptr _ _ c hblk =>
     obtain⟨ob,h1,h2,h3,h4⟩:=h.at hblk hb;cases ob<;>simp only[ORel]at h2;rename_i xs t' fr;obtain⟨rfl,_,hl,hr⟩:=h2;refine⟨_,((xs.toList.drop off).take n).toArray,rfl,?_,?_,λ_ _=>rfl⟩
     ·have:=run_loadCells_list (P:=P) w ⟨c,off,none⟩ ((xs.toList.drop off).take n) (λj v hj=>by
       rw[Jw]at hj;split at hj
       ·rw[X9]at hj;rw[jaW rfl];simp[World.cell?,h1];simpa using hj
       ·simp at hj)
      have hlen:((xs.toList.drop off).take n).length=n:=by simp;omega
      rw[hlen]at this;exact this
     ·refine LRel.mkList (by simp;omega) (λi a b => ?_);simp at a b ⊢;exact hr (off+i) aa aa
   ·simp at hc
  ·simp at hc
 ·simp at hc
theorem jlo(h:WRel O U w){E:Env}{t:TypeId}{p v:V}{x:Value}(hp:VRel O p x)(hc:jaH E U.heap t p=some v) :
  ∃y,(Instr.loadAt t x).run E.P w=.ok y w/\VRel O v y:=by
 unfold jaH at hc;simp only[Ko]at hc;obtain⟨g,hg,hc⟩:=hc;cases g with
 |true =>
  simp only[Ko,Kv]at hc;obtain⟨s,hs,cs,hcs,rfl⟩:=hc;obtain⟨a,xs,rfl,h1,h2,_⟩:=jc0 h hp hcs (P:=E.P);exact⟨.agg xs,by simp[Instr.loadAt,Instr.sureAddr,loadVar,jfI hg,jaQ hs,h1],VRel.mkAgg h2⟩
 | false =>
  simp only[Ko]at hc;obtain⟨cs,hcs,hv⟩:=hc;obtain⟨a,xs,rfl,h1,h2,h3⟩:=jc0 h hp hcs (P:=E.P);obtain⟨y,hy,hr⟩:=h2.get? hv;refine⟨y,?_,hr⟩
  have h1':(loadCells a 1).run E.P w=((load a).run E.P w).andThen λv w'=>.ok #[v] w':=by
   simp only[loadCells,loadCellsFrom,Sem.run_bind,Sem.run_pure];have:a.add 0=a:=by simp[Addr.add]
   rw[this];rfl
  rw[h1']at h1
  have:(load a).run E.P w=.ok y w:=by
   cases hl:(load a).run E.P w with
   |ok v w1 =>
    rw[hl]at h1;simp only[Result.andThen_ok,Result.ok.injEq]at h1;obtain⟨rfl,rfl⟩:=h1;simp at hy;subst hy;rfl
   |halt hh w1=>rw[hl]at h1;simp at h1
  simp only[Instr.loadAt,Instr.sureAddr,loadVar,Sem.run_bind,Sem.run_pure,Result.andThen_ok,jfI hg,Ku,Kn,this]
end
end Go.Ab
