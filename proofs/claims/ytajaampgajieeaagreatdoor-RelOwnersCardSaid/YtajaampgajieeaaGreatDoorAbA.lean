/- Proved here: the abstract evaluator, its relation to the machine, and that its pure operations and its memory are sound. Conditions: each theorem's own. -/
import Derived.Below
import Derived.KernelRfl
import Derived.Orders
import Derived.WalkKit
import Derived.Lib.Strings
import Derived.Lib.UnsafeStr
import Derived.Lib.IfaceEq
import Derived.Lib.IfaceNeq
set_option linter.unusedSimpArgs false
namespace Go.Ab
theorem Kd:type_of% @And.intro:=@And.intro
theorem Ke:type_of% @Option.some.injEq:=@Option.some.injEq
theorem Kg:type_of% @List.getElem?_set_ne:=@List.getElem?_set_ne
theorem Kh:type_of% @if_neg:=@if_neg
theorem Ki:type_of% @List.getElem?_append_left:=@List.getElem?_append_left
theorem Kj:type_of% @if_pos:=@if_pos
theorem Kk:type_of% @List.length_append:=@List.length_append
theorem Kl:type_of% @Option.bind_some:=@Option.bind_some
theorem Km:type_of% @if_true:=@if_true
theorem Kn:type_of% @List.getElem?_set_self:=@List.getElem?_set_self
theorem Ko:type_of% @Option.bind_eq_some_iff:=@Option.bind_eq_some_iff
theorem Kq:type_of% @if_false:=@if_false
theorem Kr:type_of% @Bool.false_eq_true:=@Bool.false_eq_true
theorem Ks:type_of% @Option.map_eq_some_iff:=@Option.map_eq_some_iff
theorem Ku:type_of% @List.all_cons:=@List.all_cons
theorem Kv:type_of% @Option.getD_some:=@Option.getD_some
theorem Kw:type_of% @Option.map_some:=@Option.map_some
theorem Kz:type_of% @List.getElem?_eq_getElem:=@List.getElem?_eq_getElem
theorem K4:type_of% @List.getElem?_eq_some_iff:=@List.getElem?_eq_some_iff
theorem K5:type_of% @Prod.mk.injEq:=@Prod.mk.injEq
theorem K6:type_of% @Bool.and_self:=@Bool.and_self
theorem K7:type_of% @List.map_cons:=@List.map_cons
theorem K8:type_of% @Nat.le_refl:=@Nat.le_refl
theorem K9:type_of% @List.drop_succ_cons:=@List.drop_succ_cons
theorem Qg:type_of% @List.append_assoc:=@List.append_assoc
theorem Qh:type_of% @Array.getElem?_eq_some_iff:=@Array.getElem?_eq_some_iff
theorem Qi:type_of% @Int.toNat_natCast:=@Int.toNat_natCast
theorem Qj:type_of% @List.drop_eq_getElem_cons:=@List.drop_eq_getElem_cons
theorem Qk:type_of% @List.all_nil:=@List.all_nil
theorem Ql:type_of% @List.getElem?_eq_none:=@List.getElem?_eq_none
theorem Qm:type_of% @Nat.lt_or_ge:=@Nat.lt_or_ge
theorem Qn:type_of% @List.length_cons:=@List.length_cons
theorem Qo:type_of% @Bool.and_eq_true:=@Bool.and_eq_true
theorem Qq:type_of% @List.all_eq_true:=@List.all_eq_true
theorem Qr:type_of% @Nat.zero_le:=@Nat.zero_le
theorem Qt:type_of% @Bool.and_true:=@Bool.and_true
theorem Qu:type_of% @List.take_of_length_le:=@List.take_of_length_le
theorem Qw:type_of% @List.length_map:=@List.length_map
theorem Qx:type_of% @List.length_nil:=@List.length_nil
theorem Qz:type_of% @List.length_take:=@List.length_take
theorem Q5:type_of% @List.eq_nil_of_length_eq_zero:=@List.eq_nil_of_length_eq_zero
theorem Q6:type_of% @List.drop_zero:=@List.drop_zero
theorem Q7:type_of% @Bool.not_true:=@Bool.not_true
theorem Q8:type_of% @List.getElem?_cons_succ:=@List.getElem?_cons_succ
theorem Q9:type_of% @not_false_eq_true:=@not_false_eq_true
theorem Ja:type_of% @Nat.mul_le_mul_right:=@Nat.mul_le_mul_right
theorem Jb:type_of% @List.getElem?_cons_zero:=@List.getElem?_cons_zero
theorem Jc:type_of% @decide_eq_true_eq:=@decide_eq_true_eq
theorem Jd:type_of% @Bool.not_false:=@Bool.not_false
theorem Je:type_of% @Nat.le_trans:=@Nat.le_trans
theorem Jg:type_of% @Array.length_toList:=@Array.length_toList
theorem Jh:type_of% @List.mem_cons:=@List.mem_cons
theorem Ji:type_of% @List.mem_map:=@List.mem_map
theorem Jj:type_of% @List.take_zero:=@List.take_zero
theorem Jk:type_of% @List.nil_append:=@List.nil_append
theorem Jl:type_of% @List.append_nil:=@List.append_nil
theorem Jm:type_of% @List.length_singleton:=@List.length_singleton
theorem Jn:type_of% @Nat.zero_add:=@Nat.zero_add
theorem Jo:type_of% @List.length_drop:=@List.length_drop
theorem Jp:type_of% @List.take_length:=@List.take_length
theorem Jq:type_of% @Classical.byContradiction:=@Classical.byContradiction
theorem Jr:type_of% @List.getElem?_take:=@List.getElem?_take
theorem Js:type_of% @List.map_append:=@List.map_append
theorem Jt:type_of% @List.getElem_of_mem:=@List.getElem_of_mem
theorem Ju:type_of% @List.take_succ_cons:=@List.take_succ_cons
theorem Jv:type_of% @List.map_nil:=@List.map_nil
theorem Jw:type_of% @List.getElem?_append_right:=@List.getElem?_append_right
theorem Jx:type_of% @List.mem_append:=@List.mem_append
theorem Jy:type_of% @Nat.add_mul:=@Nat.add_mul
theorem Jz:type_of% @List.cons_append:=@List.cons_append
theorem J4:type_of% @List.getElem?_map:=@List.getElem?_map
theorem J5:type_of% @List.getElem?_set:=@List.getElem?_set
theorem J6:type_of% @Bool.true_and:=@Bool.true_and
theorem J7:type_of% @List.drop_nil:=@List.drop_nil
theorem J8:type_of% @List.set_cons_zero:=@List.set_cons_zero
theorem J9:type_of% @List.mem_singleton:=@List.mem_singleton
theorem Xa:type_of% @Nat.mul_one:=@Nat.mul_one
theorem Xb:type_of% @List.getElem_mem:=@List.getElem_mem
theorem Xc:type_of% @Array.getElem?_eq_getElem:=@Array.getElem?_eq_getElem
theorem Xd:type_of% @List.getElem_cons_succ:=@List.getElem_cons_succ
theorem Xe:type_of% @List.getElem?_toArray:=@List.getElem?_toArray
theorem Xg:type_of% @Nat.eq_of_beq_eq_true:=@Nat.eq_of_beq_eq_true
theorem Xh:type_of% @Nat.sub_self:=@Nat.sub_self
theorem Xi:type_of% @Bool.or_eq_true:=@Bool.or_eq_true
theorem Xj:type_of% @Bool.or_true:=@Bool.or_true
theorem Xk:type_of% @Int.natCast_one:=@Int.natCast_one
theorem Xl:type_of% @List.set_set:=@List.set_set
theorem Xm:type_of% @Int.le_refl:=@Int.le_refl
theorem Xn:type_of% @List.length_pos_iff:=@List.length_pos_iff
theorem Xo:type_of% @Bool.or_false:=@Bool.or_false
theorem Xp:type_of% @Array.getElem?_toList:=@Array.getElem?_toList
theorem Xq:type_of% @List.take_append_drop:=@List.take_append_drop
theorem Xr:type_of% @List.filter_cons_of_pos:=@List.filter_cons_of_pos
theorem Xs:type_of% @List.getElem_toArray:=@List.getElem_toArray
theorem Xt:type_of% @List.mem_iff_getElem:=@List.mem_iff_getElem
theorem Xu:type_of% @List.mapM_cons:=@List.mapM_cons
theorem Xv:type_of% @List.ext_getElem?:=@List.ext_getElem?
theorem Xw:type_of% @List.map_map:=@List.map_map
theorem Xx:type_of% @Bool.false_or:=@Bool.false_or
theorem Xy:type_of% @Nat.min_eq_left:=@Nat.min_eq_left
theorem Xz:type_of% @List.mem_filter:=@List.mem_filter
theorem X4:type_of% @List.getD_cons_succ:=@List.getD_cons_succ
theorem X5:type_of% @List.getElem_cons_zero:=@List.getElem_cons_zero
theorem X6:type_of% @List.getElem?_drop:=@List.getElem?_drop
theorem X7:type_of% @Nat.le_of_eq:=@Nat.le_of_eq
theorem X8:type_of% @List.forIn_cons:=@List.forIn_cons
theorem X9:type_of% @List.cons.injEq:=@List.cons.injEq
theorem Vb:type_of% @Int.ofNat_eq_natCast:=@Int.ofNat_eq_natCast
theorem Vc:type_of% @Nat.add_assoc:=@Nat.add_assoc
theorem Vd:type_of% @List.filter_cons_of_neg:=@List.filter_cons_of_neg
theorem Ve:type_of% @List.getElem_append:=@List.getElem_append
theorem Vg:type_of% @List.mem_range:=@List.mem_range
theorem Vh:type_of% @Nat.add_zero:=@Nat.add_zero
theorem Vi:type_of% @Nat.lt_of_lt_of_le:=@Nat.lt_of_lt_of_le
theorem Vj:type_of% @List.zip_cons_cons:=@List.zip_cons_cons
theorem Vk:type_of% @List.singleton_append:=@List.singleton_append
theorem Vl:type_of% @Nat.le_of_ble_eq_true:=@Nat.le_of_ble_eq_true
theorem Vm:type_of% @List.count_cons_of_ne:=@List.count_cons_of_ne
theorem Vn:type_of% @List.length_filter_le:=@List.length_filter_le
theorem Vo:type_of% @Array.getElem?_eq_none_iff:=@Array.getElem?_eq_none_iff
theorem Vp:type_of% @Int.add_mul_emod_self_left:=@Int.add_mul_emod_self_left
theorem Vr:type_of% @List.flatten_cons:=@List.flatten_cons
theorem Vs:type_of% @List.getElem?_append:=@List.getElem?_append
theorem Vt:type_of% @List.mem_cons_of_mem:=@List.mem_cons_of_mem
theorem Vu:type_of% @List.drop_length:=@List.drop_length
theorem Vv:type_of% @List.set_eq_of_length_le:=@List.set_eq_of_length_le
theorem Vw:type_of% @List.getD_cons_zero:=@List.getD_cons_zero
theorem Vx:type_of% @List.map_congr_left:=@List.map_congr_left
theorem Vy:type_of% @List.countP_cons_of_neg:=@List.countP_cons_of_neg
theorem Vz:type_of% @List.filter_append:=@List.filter_append
theorem V4:type_of% @List.zip_nil_right:=@List.zip_nil_right
theorem V5:type_of% @Nat.one_mul:=@Nat.one_mul
theorem V6:type_of% @List.find?_cons_of_neg:=@List.find?_cons_of_neg
theorem V7:type_of% @List.getElem_drop:=@List.getElem_drop
theorem V8:type_of% @Int.emod_eq_of_lt:=@Int.emod_eq_of_lt
theorem V9:type_of% @List.take_add_one:=@List.take_add_one
theorem Ua:type_of% @Bool.true_or:=@Bool.true_or
theorem Ub:type_of% @Array.toArray_toList:=@Array.toArray_toList
theorem Uc:type_of% @List.not_mem_nil:=@List.not_mem_nil
theorem Ud:type_of% @Nat.sub_mul:=@Nat.sub_mul
theorem Ue:type_of% @List.filter_eq_self:=@List.filter_eq_self
theorem Ug:type_of% @Array.getElem_append_left:=@Array.getElem_append_left
theorem Uh:type_of% @List.getElem_append_right:=@List.getElem_append_right
theorem Ui:type_of% @Option.isSome_none:=@Option.isSome_none
theorem Uj:type_of% @List.getElem_append_left:=@List.getElem_append_left
theorem Uk:type_of% @List.countP_append:=@List.countP_append
theorem Ul:type_of% @List.getElem_range:=@List.getElem_range
theorem Um:type_of% @Nat.mod_lt:=@Nat.mod_lt
theorem Un:type_of% @Bool.and_false:=@Bool.and_false
theorem Uo:type_of% @List.length_eq_zero_iff:=@List.length_eq_zero_iff
theorem Up:type_of% @Nat.lt_trichotomy:=@Nat.lt_trichotomy
theorem Uq:type_of% @Bool.not_eq_true':=@Bool.not_eq_true'
theorem Ur:type_of% @Classical.not_not:=@Classical.not_not
theorem Us:type_of% @Array.getElem?_eq_none:=@Array.getElem?_eq_none
theorem Ut:type_of% @List.drop_of_length_le:=@List.drop_of_length_le
theorem Uu:type_of% @List.getElem_map:=@List.getElem_map
theorem Uv:type_of% @List.reverse_nil:=@List.reverse_nil
theorem Uw:type_of% @Int.natCast_zero:=@Int.natCast_zero
theorem Ux:type_of% @List.foldl_cons:=@List.foldl_cons
theorem Uy:type_of% @List.length_set:=@List.length_set
theorem Uz:type_of% @Bool.eq_iff_iff:=@Bool.eq_iff_iff
theorem U4:type_of% @List.range_eq_range':=@List.range_eq_range'
theorem U5:type_of% @Array.getElem_modify:=@Array.getElem_modify
theorem U6:type_of% @Option.map_none:=@Option.map_none
theorem U7:type_of% @List.mem_of_getElem?:=@List.mem_of_getElem?
theorem aa {p:Prop}(h:p:=by omega):p:=h
theorem ac {p:Prop}(h:p:=by kernel_rfl):p:=h
theorem ae {p:Prop}(h:p:=by simp):p:=h
theorem af {p:Prop}(h:p:=by decide):p:=h
inductive RCap where
 |full
 |tok (k e s:Nat)
 |unk
 deriving DecidableEq
inductive HCap where
 |exact
 |least
 |grow (s:Nat)
 |both (s:Nat)
 deriving DecidableEq
def HCap.cut(s:Nat):HCap->HCap
 | .grow s'=>if s'=s then .grow s' else .least
 | .both s'=>if s'=s then .both s' else .least
 |_=>.least
def HCap.room(s:Nat):HCap->Bool
 | .grow s'=>s'==s
 | .both s'=>s'==s
 |_=>false
inductive V where
 |bool (b:Bool)
 |int (k:IntKind) (n:Int)
 |str (s:List UInt8)
 |ptr (b off:Nat)
 |nilptr
 |rptr (cells:List V)
 |hsl (b off len cap:Nat) (ex:HCap)
 |row (cells:List V) (len:Nat) (cap:RCap)
 |nilsl
 |func (fn:FuncId) (first captured:List V)
 |yld (l:Nat)
 |nilfn
 |iface (t:TypeId) (v:V)
 |nilif
 |agg (cs:List V)
 |tup (vs:List V)
 |nilmap
 |map (b:Nat)
 |meth (name:String) (recv:V)
 |any
def V.cells:V->List V
 | .agg cs=>cs
 |v=>[v]
def V.isCell:V->Bool
 | .agg _=>false
 | .tup _=>false
 |_=>true
inductive AObj where
 |cells (cs:List V) (elem:TypeId)
 |loop (st:LoopState) (pend:Option Code) (fn:FuncId) (tmps:List V) (params:Array Tmp) (asg body:Code) (dfr:Nat)
 |defd (opn:Bool)
 |iter (s:List UInt8) (pos:Nat)
 |ro (cs:List V) (elem:TypeId)
 |map (es:List (V × V × Nat)) (clock:Nat)
 |dead
 |resv
def AObj.isRo:AObj->Bool
 | .ro _ _=>true
 | .dead=>true
 | .resv=>true
 |_=>false
structure S where
 heap:List AObj
 toks:List Nat
def S.empty:S:=⟨[],[]⟩
structure Env where
 P:Program
 pure:FuncId->Bool
 mutb:FuncId->Nat->Bool
 gl:Nat->Option V
 hook:FuncId->Option (List V->Option V)
 frz:FuncId->Bool:=λ_=>false
 stab:FuncId->Nat->Bool:=λ_ _=>false
 rowB:Bool:=false
 pan:FuncId->Bool:=λ_=>false
 hookS:FuncId->Option (List V->S->Option (V × S)):=λ_=>none
def lim:Nat:=2^40
def jkA:Value->Option V
 | .bool b=>some (.bool b)
 | .int k n=>some (.int k n)
 | .string s=>some (.str s.data.toList)
 | .pointer none=>some .nilptr
 | .slice none 0 0=>some .nilsl
 | .nilFunc=>some .nilfn
 | .nilIface=>some .nilif
 | .map none=>some .nilmap
 |_=>none
def jfS:Value->Option V
 | .agg cs=>(cs.toList.mapM jkA).map .agg
 |v=>jkA v
section
variable (E:Env)
def sz(t:TypeId):Option Nat:=(E.P.info? t).map (·.size)
def bys(t:TypeId):Option Nat:=(E.P.info? t).map (·.bytes)
def aggT(t:TypeId):Option Bool :=
 match E.P.underlying t with
 |some (.struct _)=>some true
 |some (.array _ _)=>some true
 |some _=>some false
 |none=>none
def ja8(t:TypeId):Option V:=((E.P.info? t).bind (·.zero)).bind jfS
def jhm(t:TypeId):Option Nat:=((E.P.info? t).bind (·.zero)).map (·.cells.size)
def jfE(t:TypeId):Option TypeId :=
 match E.P.underlying t with
 |some (.slice e)=>some e
 |_=>none
end
def jbr(E:Env)(tmps:List V):Operand->Option V
 | .tmp t=>some (tmps.getD t (.tup []))
 | .const v=>jfS v
 | .global g=>E.gl g
 | .func f=>some (.func f [] [])
def jkB(s:Nat):RCap->RCap
 | .tok k e s'=>if s'=s then .tok k e s' else .unk
 |c=>c
def ja4(x:Option V)(dflt top:Nat):Option Nat :=
 match x with
 |none=>some dflt
 |some (.int _ i)=>if 0<=i/\i<=top then some i.toNat else none
 |some _=>none
def jcV(s:Nat)(x:V)(lo hi mx:Option V):Option V :=
 match x,mx with
 | .str b,none =>
  match ja4 hi b.length b.length with
  |some h=>match ja4 lo 0 h with
   |some l=>some (.str ((b.drop l).take (h-l)))
   |none=>none
  |none=>none
 | .nilsl,none =>
  match ja4 hi 0 0 with
  |some h=>match ja4 lo 0 h with
   |some _=>some .nilsl
   |none=>none
  |none=>none
 | .row cells len cap,none =>
  match ja4 hi len len with
  |some h=>match ja4 lo 0 h with
   |some l=>some (.row ((cells.drop (l*s)).take ((h-l)*s)) (h-l) (if h=len then jkB s cap else .unk))
   |none=>none
  |none=>none
 | .row cells len _,some m =>
  match ja4 (some m) 0 len with
  | some mm=>match hi with
   | some h0=>match ja4 (some h0) 0 mm with
    |some h=>match ja4 lo 0 h with
     |some l=>some (.row ((cells.drop (l*s)).take ((h-l)*s)) (h-l) (if h=mm then .full else .unk))
     |none=>none
    |none=>none
   |none=>none
  |none=>none
 | .hsl b off len cap .exact,none =>
  match ja4 hi len cap with
  |some h=>match ja4 lo 0 h with
   |some l=>some (.hsl b (if l=cap then off else off+l*s) (h-l) (cap-l) .exact)
   |none=>none
  |none=>none
 | .hsl b off len cap ex,none =>
  match ja4 hi len cap with
  |some h=>match ja4 lo 0 h with
   |some l=>if l<cap\/l=0 then some (.hsl b (off+l*s) (h-l) (cap-l) (ex.cut s))else if h=l then some (.row [] 0 .unk)else none
   |none=>none
  |none=>none
 |_,_=>none
def jeT(n s:Nat)(x:V)(lo hi mx:Option V):Option V :=
 match x,mx with
 | .rptr cells,none =>
  match ja4 hi n n with
  |some h=>match ja4 lo 0 h with
   |some l=>some (.row ((cells.drop (l*s)).take ((h-l)*s)) (h-l) (if h=n then .full else .unk))
   |none=>none
  |none=>none
 | .ptr b off,none =>
  match ja4 hi n n with
  |some h=>match ja4 lo 0 h with
   |some l=>some (.hsl b (if n=l then off else off+l*s) (h-l) (n-l) .exact)
   |none=>none
  |none=>none
 |_,_=>none
def jaw(s:Nat)(x ix:V):Option V :=
 match x,ix with
 | .row cells len _,.int _ i=>if 0<=i/\i<len then some (.rptr (cells.drop (i.toNat*s)))else none
 | .hsl b off len _ _,.int _ i=>if 0<=i/\i<len then some (.ptr b (off+i.toNat*s))else none
 |_,_=>none
def jeh(n s:Nat)(x ix:V):Option V :=
 match x,ix with
 | .rptr cells,.int _ i=>if 0<=i/\i<n then some (.rptr (cells.drop (i.toNat*s)))else none
 | .ptr b off,.int _ i=>if 0<=i/\i<n then some (.ptr b (off+i.toNat*s))else none
 |_,_=>none
def jcO(off:Nat):V->Option V
 | .rptr cells=>some (.rptr (cells.drop off))
 | .ptr b o=>some (.ptr b (o+off))
 |_=>none
def jgH(isagg:Bool)(s:Nat)(cs:List V)(off:Nat):Option V :=
 if isagg then some (.agg ((cs.drop off).take s))else cs[off]?
def vLen:V->Option Nat
 | .str b=>some b.length
 | .row _ len _=>some len
 | .hsl _ _ len _ _=>some len
 | .nilsl=>some 0
 |_=>none
def jaT(h:List AObj)(s n:Nat):V->Option (List V)
 | .row cells len _=>if n<=len/\n*s<=cells.length then some (cells.take (n*s))else none
 | .hsl b off len _ _ =>
  match h[b]? with
  |some (.cells cs _)=>if n<=len/\off+n*s<=cs.length then some ((cs.drop off).take (n*s))else none
  |some (.ro cs _)=>if n<=len/\off+n*s<=cs.length then some ((cs.drop off).take (n*s))else none
  |_=>none
 | .nilsl=>if n=0 then some []else none
 | .str b=>if n<=b.length/\s=1 then some ((b.take n).map λx=>.int .u8 x.toNat)else none
 |_=>none
def jex:List V->Option (List UInt8)
 | []=>some []
 | .int .u8 n::r=>(jex r).map (UInt8.ofNat n.toNat :: ·)
 |_=>none
def jca(op:BinOp)(k:IntKind)(a b:Int):Option V :=
 match op with
 | .add=>some (.int k (k.wrap (a+b)))
 | .sub=>some (.int k (k.wrap (a-b)))
 | .mul=>some (.int k (k.wrap (a*b)))
 | .quo=>if b=0 then none else some (.int k (k.wrap (a.tdiv b)))
 | .rem=>if b=0 then none else some (.int k (a.tmod b))
 | .and=>some (.int k (k.wrap (BitVec.ofInt k.bits a &&& BitVec.ofInt k.bits b).toNat))
 | .or=>some (.int k (k.wrap (BitVec.ofInt k.bits a |||BitVec.ofInt k.bits b).toNat))
 | .xor=>some (.int k (k.wrap (BitVec.ofInt k.bits a ^^^BitVec.ofInt k.bits b).toNat))
 | .andNot=>some (.int k (k.wrap (BitVec.ofInt k.bits a &&& ~~~BitVec.ofInt k.bits b).toNat))
 | .eql=>some (.bool (a==b))
 | .neq=>some (.bool (a != b))
 | .lss=>some (.bool (a<b))
 | .leq=>some (.bool (a<=b))
 | .gtr=>some (.bool (a>b))
 | .geq=>some (.bool (a >= b))
 |_=>none
def jkC(op:BinOp)(k:IntKind)(a b:Int):Option V :=
 if b<0 then none else
 match op with
 | .shl=>some (.int k (k.wrap (a*2^min b.toNat k.bits)))
 | .shr=>some (.int k (a.fdiv (2^min b.toNat k.bits)))
 |_=>none
def jkD(op:BinOp)(x y:List UInt8):Option V :=
 match op with
 | .add=>if x.length+y.length<=lim then some (.str (x++y))else none
 | .eql=>some (.bool (x==y))
 | .neq=>some (.bool !(x==y))
 | .lss=>some (.bool (Op.bytesLess x y))
 | .leq=>some (.bool (Op.bytesLess x y ||x==y))
 | .gtr=>some (.bool !(Op.bytesLess x y ||x==y))
 | .geq=>some (.bool !(Op.bytesLess x y))
 |_=>none
def vBin(op:BinOp)(x y:V):Option V :=
 match op,x,y with
 | .shl,.int k a,.int _ b=>jkC .shl k a b
 | .shr,.int k a,.int _ b=>jkC .shr k a b
 |op,.int k a,.int k' b=>if k=k' then jca op k a b else none
 |op,.str a,.str b=>jkD op a b
 |_,_,_=>none
def jcr:Operand->Bool
 | .const _=>true
 |_=>false
def vEq(us:Option TypeDesc)(c:Bool)(a b:V):Option Bool :=
 match us,a,b with
 |some .bool,.bool x,.bool y=>some (x==y)
 |some (.pointer _),.nilptr,.nilptr=>some true
 |some (.pointer _),.nilptr,.ptr _ _=>some false
 |some (.pointer _),.nilptr,.rptr _=>some false
 |some (.pointer _),.ptr _ _,.nilptr=>some false
 |some (.pointer _),.rptr _,.nilptr=>some false
 |some (.interface _),.nilif,.nilif=>if c then some true else none
 |some (.interface _),.nilif,.iface _ _=>some false
 |some (.interface _),.iface _ _,.nilif=>some false
 |some (.slice _),.nilsl,.nilsl=>some true
 |some (.slice _),.nilsl,.row _ _ _=>some false
 |some (.slice _),.row _ _ _,.nilsl=>some false
 |some (.slice _),.nilsl,.hsl _ _ _ _ _=>some false
 |some (.slice _),.hsl _ _ _ _ _,.nilsl=>some false
 |some (.func _ _ _),.nilfn,.nilfn=>some true
 |some (.func _ _ _),.nilfn,.func _ _ _=>some false
 |some (.func _ _ _),.func _ _ _,.nilfn=>some false
 |_,_,_=>none
def jbP(us:Option TypeDesc)(c:Bool)(op:BinOp)(a b:V):Option V :=
 match vBin op a b with
 |some v=>some v
 |none =>
  match op with
  | .eql=>(vEq us c a b).map .bool
  | .neq=>(vEq us c a b).map λr=>.bool !r
  |_=>none
def vUn(op:UnOp)(x:V):Option V :=
 match op,x with
 | .not,.bool b=>some (.bool !b)
 | .neg,.int k n=>some (.int k (k.wrap (0-n)))
 | .xor,.int k n=>some (.int k (k.wrap (BitVec.ofInt k.bits (if k.signed then -1 else k.max) ^^^BitVec.ofInt k.bits n).toNat))
 |_,_=>none
def jei(place:Nat->Option (Nat × Nat))(cells:List V):List (Nat × V)->Option (List V)
 | []=>some cells
 | (i,v)::rest =>
  match place i with
  |none=>none
  | some (off,size) =>
   if v.cells.length=size/\off+size<=cells.length then
    jei place (cells.take off++v.cells++cells.drop (off+size)) rest
   else none
def jdN(mx:Bool)(k:IntKind)(a:Int):List V->Option V
 | []=>some (.int k a)
 | .int _ b::r=>jdN mx k (if mx then(if b>a then b else a)else(if b<a then b else a)) r
 |_=>none
def jdr(mx:Bool):List V->Option V
 | .int k a::r=>jdN mx k a r
 |_=>none
def jey(E:Env)(t:TypeId):Option (Nat->Option (Nat × Nat)) :=
 match E.P.underlying t with
 |some (.struct fields)=>(fields.toList.mapM λf=>(sz E f.type).map λs=>(f.offset,s)).map λl i=>l[i]?
 |some (.array _ e)=>(sz E e).map λs i=>some (i*s,s)
 |_=>none
def optO(ρ:Operand->Option V):Option Operand->Option (Option V)
 |none=>some none
 |some x=>(ρ x).map some
def jcs(ρ:Operand->Option V):List (Nat × Operand)->Option (List (Nat × V))
 | []=>some []
 |(i,x)::r=>(ρ x).bind λv=>(jcs ρ r).map λl=>(i,v)::l
def jfl(E:Env)(cmp:TypeId->V->V->Option Bool)(xs ys:List V):List Field->Option Bool
 | []=>some true
 | f::r =>
  if f.name ≠ "_" then
   (sz E f.type).bind λs=>(aggT E f.type).bind λg=>(jgH g s xs f.offset).bind λx=>(jgH g s ys f.offset).bind λy=>(cmp f.type x y).bind λb =>
    if b then jfl E cmp xs ys r else some false
  else jfl E cmp xs ys r
def jhK(cmp:V->V->Option Bool)(g:Bool)(s:Nat)(xs ys:List V):List Nat->Option Bool
 | []=>some true
 |i::r=>(jgH g s xs (i*s)).bind λx=>(jgH g s ys (i*s)).bind λy=>(cmp x y).bind λb=>if b then jhK cmp g s xs ys r else some false
def eqT(E:Env):Nat->TypeId->V->V->Option Bool
 |0,_,_,_=>none
 |d+1,t,x,y =>
  match E.P.underlying t,x,y with
  |some .bool,.bool a,.bool b=>some (a==b)
  |some (.int _),.int k a,.int k' b=>if k=k' then some (a==b)else none
  |some .string,.str a,.str b=>some (a==b)
  |some (.struct fields),.agg xs,.agg ys=>if E.P.stoodInHeld t then none else jfl E (eqT E d) xs ys fields.toList
  |some (.array len e),.agg xs,.agg ys=>(sz E e).bind λs=>(aggT E e).bind λg=>jhK (eqT E d e) g s xs ys (List.range len)
  |_,_,_=>none
def jjL(E:Env)(t:TypeId)(a o b o':Nat):Bool :=
 match E.P.underlying t with
 |some (.pointer e)=>decide (a=b) && decide (o=o') && (sz E e).isSome
 |_=>false
def jhs(E:Env)(t tx:TypeId):Bool :=
 match E.P.underlying t,E.P.underlying tx,(E.P.info? tx).map (·.comparable)with
 |some (.interface _),some (.int _),some true=>true
 |_,_,_=>false
def jpm(E:Env)(t:TypeId)(op:BinOp)(x y:V):Option V :=
 match op,x,y with
 | .eql,.agg xs,.agg ys=>if E.P.eqGuardType E.P.depth t then none else(eqT E 8 t (.agg xs) (.agg ys)).map .bool
 | .neq,.agg xs,.agg ys=>if E.P.eqGuardType E.P.depth t then none else(eqT E 8 t (.agg xs) (.agg ys)).map λr=>.bool !r
 | .eql,.ptr a o,.ptr b o'=>if jjL E t a o b o' then some (.bool true)else none
 | .neq,.ptr a o,.ptr b o'=>if jjL E t a o b o' then some (.bool false)else none
 | .eql,.iface tx (.int k a),.iface ty (.int k' b)=>if tx=ty/\k=k'/\jhs E t tx=true then some (.bool (a==b))else none
 | .neq,.iface tx (.int k a),.iface ty (.int k' b)=>if tx=ty/\k=k'/\jhs E t tx=true then some (.bool (a != b))else none
 |_,_,_=>none
def jgI(E:Env)(t:TypeId)(c:Bool)(op:BinOp)(x y:V):Option V :=
 match jbP (E.P.underlying t) c op x y with
 |some v=>some v
 |none=>jpm E t op x y
def jdh(E:Env)(kt:TypeId)(k:V):List (V × V × Nat)->Nat->Option (Option Nat)
 | [],_=>some none
 |e::r,i=>(eqT E 8 kt k e.1).bind λb=>if b then some (some i)else jdh E kt k r (i+1)
def jhL:Nat->V->V->Bool
 |_,.bool a,.bool b=>a==b
 |_,.int j a,.int k b=>decide (j=k) && (a==b)
 |_,.str a,.str b=>a==b
 |d+1,.agg a,.agg b=>decide (a.length=b.length) && (a.zip b).all λp=>jhL d p.1 p.2
 |_,_,_=>false
def jdy(E:Env):Nat->TypeId->V->Bool
 |0,_,_=>false
 | d+1,t,v =>
  match E.P.underlying t,v with
  |some .bool,_=>true
  |some (.int _),_=>true
  |some .string,_=>true
  | some (.struct fields),.agg cs=>fields.toList.all λf=>f.name== "_" ||
    (match sz E f.type,aggT E f.type with
     |some s,some g=>(match jgH g s cs f.offset with|some x=>jdy E d f.type x|none=>false)
     |_,_=>false)
  |_,_=>false
def jbK(ρ:Operand->Option V):List Operand->Option (List V)
 | []=>some []
 |x::r=>(ρ x).bind λv=>(jbK ρ r).map λl=>v::l
def jpn:V->Option (List V)
 | .agg cs=>some cs
 |_=>none
def ja9(d:Option TypeDesc)(v:V):Option V :=
 match d,v with
 |some .string,.str b=>some (.int .i64 b.length)
 |some (.slice _),.row _ len _=>some (.int .i64 len)
 |some (.slice _),.hsl _ _ len _ _=>some (.int .i64 len)
 |some (.slice _),.nilsl=>some (.int .i64 0)
 |some (.array n _),_=>some (.int .i64 n)
 |_,_=>none
def jon(d:Option TypeDesc)(v:V):Option V :=
 match d,v with
 |some (.slice _),.nilsl=>some (.int .i64 0)
 |some (.slice _),.row _ len .full=>some (.int .i64 len)
 |some (.slice _),.hsl _ _ _ cap .exact=>some (.int .i64 cap)
 |some (.slice _),.hsl _ _ _ cap (.both _)=>some (.int .i64 cap)
 |_,_=>none
def jhM(E:Env)(h:List AObj)(us ud:TypeDesc)(v:V):Option V :=
 match us,ud,v with
 | .pointer t,.unsafePointer,.ptr b off =>
  match h[b]? with
  |some (.cells cs _)=>if off<cs.length/\((sz E t).map λs=>decide (s=0))=some false then some (.ptr b off)else none
  |_=>none
 | .unsafePointer,.pointer u,.ptr b off =>
  match h[b]? with
  |some (.cells cs e)=>if off=0/\e=u/\0<E.P.cellsOf u/\E.P.cellsOf u<=cs.length then some (.ptr b off)else none
  |_=>none
 |_,_,_=>none
def jfT(E:Env)(v:V)(name:String):Option (FuncId × V) :=
 match v with
 | .iface t x=>((E.P.info? t).bind λi=>i.methods.find? (·.name==name)).bind λm =>
  if m.path.isEmpty then
   match m.func,E.P.underlying t with
   |some (f,true),some (.pointer _)=>some (f,x)
   |some (_,false),some (.pointer _)=>none
   |some (f,false),some _=>some (f,x)
   |_,_=>none
  else none
 |_=>none
def jba(E:Env)(ρ:Operand->Option V):Op->Option V
 | .move x=>ρ x
 | .assign x=>ρ x
 | .pick c a b=>(ρ c).bind fun
  | .bool t=>(ρ a).bind λx=>(ρ b).bind λy=>some (if t then x else y)
  |_=>none
 | .build t parts=>(jcs ρ parts.toList).bind λps=>(ja8 E t).bind λz=>(jey E t).bind λpl =>
   (jei pl z.cells ps).map .agg
 | .binOp op t x y _=>(ρ x).bind λa=>(ρ y).bind λb=>jgI E t (jcr x ||jcr y) op a b
 | .unOp op _ x=>(ρ x).bind λa=>vUn op a
 | .convert src dst x=>(ρ x).bind λv =>
  match E.P.underlying src,E.P.underlying dst,v with
  |some _,some (.int k),.int _ n=>some (.int k (k.wrap n))
  |some _,some .string,.str s=>some (.str s)
  |some _,some .string,.int _ n=>if 0<=n/\n<128 then some (.str [UInt8.ofNat n.toNat])else none
  |_,_,_=>none
 | .makeFunc (.func f) first captured=>(jbK ρ first.toList).bind λa=>(jbK ρ captured.toList).map λc=>.func f a c
 | .makeFunc (.method name) first captured=>match first.toList,captured.toList with
  | [x],[]=>(ρ x).map (.meth name)
  |_,_=>none
 | .makeInterface t x=>(ρ x).bind λv =>
  match E.P.underlying t with
  |some (.interface _)=>none
  |some _=>some (.iface t v)
  |none=>none
 | .slice t x lo hi mx=>(ρ x).bind λv=>(optO ρ lo).bind λl=>(optO ρ hi).bind λh=>(optO ρ mx).bind λm =>
  match E.P.underlying t with
  |some .string=>(match v with| .str b=>jcV 0 (.str b) l h m|_=>none)
  |some (.slice e)=>(sz E e).bind λs =>
   match v with
   | .str _=>none
   |v=>jcV s v l h m
  |some (.array n e)=>(sz E e).bind λs=>jeT n s v l h m
  |_=>none
 | .nilCheck x=>(ρ x).bind fun
  | .ptr b o=>some (.ptr b o)
  | .rptr cs=>some (.rptr cs)
  | .meth name r=>(jfT E r name).map λ_=>.meth name r
  |_=>none
 | .fieldAddr t x f=>(ρ x).bind λv =>
  match E.P.underlying t with
  |some (.struct fields)=>(fields[f]?).bind λfd=>(sz E fd.type).bind λs=>if s=0 then none else jcO fd.offset v
  |_=>none
 | .field t x f=>(ρ x).bind λv =>
  match E.P.underlying t,v with
  |some (.struct fields),.agg cs=>(fields[f]?).bind λfd=>(sz E fd.type).bind λs=>(aggT E fd.type).bind λg=>jgH g s cs fd.offset
  |_,_=>none
 | .indexAddr t x ix=>(ρ x).bind λv=>(ρ ix).bind λi =>
  match E.P.underlying t with
  |some (.slice e)=>(sz E e).bind λs=>jaw s v i
  |some (.array n e)=>(sz E e).bind λs=>jeh n s v i
  |_=>none
 | .index t x ix=>(ρ x).bind λv=>(ρ ix).bind λi =>
  match E.P.underlying t,v,i with
  |some .string,.str s,.int _ n=>if 0<=n/\n<s.length then some (.int .u8 (s.getD n.toNat 0).toNat)else none
  |some (.array len e),.agg cs,.int _ n=>if 0<=n/\n<len then(sz E e).bind λs=>(aggT E e).bind λg=>jgH g s cs (n.toNat*s)else none
  |_,_,_=>none
 | .extract x i=>(ρ x).bind fun
  | .tup vs=>vs[i]?
  |_=>none
 | .call c =>
  match c.callee with
  | .builtin .len=>(jbK ρ c.args.toList).bind fun
   | [v]=>(c.argTypes[0]?).bind λt =>
    ja9 (E.P.underlying t) v
   |_=>none
  | .builtin .cap=>(jbK ρ c.args.toList).bind fun
   | [v]=>(c.argTypes[0]?).bind λt =>
    jon (E.P.underlying t) v
   |_=>none
  | .builtin .max=>(jbK ρ c.args.toList).bind (jdr true)
  | .builtin .min=>(jbK ρ c.args.toList).bind (jdr false)
  |_=>none
 |_=>none
def jab(h:List AObj)(n:Nat):V->Option (List V)
 | .rptr cells=>if n<=cells.length then some (cells.take n)else none
 | .ptr b off =>
  match h[b]? with
  |some (.cells cs _)=>if off+n<=cs.length then some ((cs.drop off).take n)else none
  |some (.ro cs _)=>if off+n<=cs.length then some ((cs.drop off).take n)else none
  |_=>none
 |_=>none
def jaF(E:Env)(h:List AObj)(t:TypeId)(p:V):Option V :=
 (aggT E t).bind fun
 |true=>(sz E t).bind λs=>(jab h s p).map .agg
 |false=>(jab h 1 p).bind (·[0]?)
def jtd(ok:Bool)(v:V)(is:Bool):V:=if ok then .tup [v,.bool is]else v
def jpo(ok:Bool)(es:List (V × V × Nat))(z:V):Option Nat->V
 |some j=>jtd ok ((es[j]?.map (·.2.1)).getD z) true
 |none=>jtd ok z false
def jbp(E:Env)(ρ:Operand->Option V)(U:S):Op->Option V
 | .load t x=>(ρ x).bind λp=>jaF E U.heap t p
 | .lookup t m k ok=>(ρ m).bind λmv=>(ρ k).bind λkv =>
  match E.P.underlying t,mv with
  | some (.map kt et),.map b =>
   match U.heap[b]? with
   |some (.map es _) =>
    if jdy E 8 kt kv then(ja8 E et).bind λz=>(jdh E kt kv es 0).map (jpo ok es z)
    else none
   |_=>none
  |_,_=>none
 | .convert src dst x=>(ρ x).bind λv =>
  match E.P.underlying src,E.P.underlying dst with
  |some (.slice e),some .string =>
   match E.P.underlying e,v with
   |some (.int .u8),.row cells len cap=>(jaT U.heap 1 len (.row cells len cap)).bind λcs=>(jex cs).map .str
   |some (.int .u8),.hsl b off len cap ex=>(jaT U.heap 1 len (.hsl b off len cap ex)).bind λcs=>(jex cs).map .str
   |some (.int .u8),.nilsl=>some (.str [])
   |_,_=>none
  |some us,some ud=>jhM E U.heap us ud v
  |_,_=>none
 |_=>none
def S.push(U:S)(o:AObj):S:=⟨U.heap++[o],U.toks⟩
def S.set(U:S)(b:Nat)(o:AObj):S:=⟨U.heap.set b o,U.toks⟩
def jaa(cs:List V)(off:Nat)(new:List V):List V:=cs.take off++new++cs.drop (off+new.length)
def jbZ(U:S)(new:List V):V->Option S
 | .ptr b off =>
  match U.heap[b]? with
  |some (.cells cs t)=>if off+new.length<=cs.length/\new.all V.isCell then some (U.set b (.cells (jaa cs off new) t))else none
  |_=>none
 |_=>none
def jbf (mutb:Bool)(s by' m:Nat)(elem:TypeId)(new:List V)(x:V)(U:S):Option (V × S) :=
  match x with
  | .nilsl =>
    if m=0 then some (.nilsl,U)else
    if m*by'<=lim/\m<=lim then
      if mutb then some (.hsl U.heap.length 0 m m (.grow s),U.push (.cells new elem))
      else some (.row new m (.tok U.toks.length 0 s),⟨U.heap,U.toks++[0]⟩)
    else none
  | .row cells len cap =>
    if m=0 then some (x,U)else
    if (len+m)*by'<=lim/\len+m<=lim/\cells.length=len*s/\new.all V.isCell then
      match cap with
      | .full =>
        if mutb then some (.hsl U.heap.length 0 (len+m) (len+m) (.grow s),U.push (.cells (cells++new) elem))
        else some (.row (cells++new) (len+m) (.tok U.toks.length 0 s),⟨U.heap,U.toks++[0]⟩)
      | .tok k e s' =>
        if U.toks[k]? = some e/\s'=s then some (.row (cells++new) (len+m) (.tok k (e+1) s),⟨U.heap,U.toks.set k (e+1)⟩)else none
      | .unk=>none
    else none
  | .hsl b off len cap ex =>
    if len+m<=cap then
      if m=0 then some (x,U)else
      (jbZ U new (.ptr b (off+len*s))).map λU'=>(.hsl b off (len+m) cap ex,U')
    else
    if ex=.exact/\(len+m)*by'<=lim/\len+m<=lim then
      (jaT U.heap s len x).map λold =>
        if mutb then(.hsl U.heap.length 0 (len+m) (len+m) (.grow s),U.push (.cells (old++new) elem))
        else(.row (old++new) (len+m) (.tok U.toks.length 0 s),⟨U.heap,U.toks++[0]⟩)
    else
    if ex=.grow s/\off=0/\(len+m)*by'<=lim/\len+m<=lim/\new.all V.isCell then
      match U.heap[b]? with
      |some (.cells cs t)=>if t=elem/\len*s<=cs.length then some (.hsl U.heap.length 0 (len+m) (len+m) (.grow s),(U.set b .dead).push (.cells (cs.take (len*s)++new) elem))else none
      |_=>none
    else none
  |_=>none
def jpp(E:Env)(mutb:Bool)(s by':Nat)(elem:TypeId)(x y:V)(U:S):Option (V × S) :=
 match x,y with
 | .nilsl,.int _ n =>
  if n=0 then some (.nilsl,U)else
  if 0<n/\n<=lim/\n*by'<=lim/\0<s then
   (ja8 E elem).bind λz =>
    if z.cells.length=s then
     if mutb then some (.hsl U.heap.length 0 n.toNat n.toNat (.grow s),U.push (.cells (List.replicate n.toNat z.cells).flatten elem))
     else some (.row (List.replicate n.toNat z.cells).flatten n.toNat (.tok U.toks.length 0 s),⟨U.heap,U.toks++[0]⟩)
    else none
  else none
 |_,_=>none
def jdi(s:List UInt8):List V:=s.map λb=>.int .u8 b.toNat
def jbs (E:Env)(mutb:Bool)(ρ:Operand->Option V)(U:S):Op->Option (V × S)
  | .convert src dst x=>(ρ x).bind λv =>
    match E.P.underlying src,E.P.underlying dst,v with
    | some _,some (.slice e),.str s =>
      match E.P.underlying e with
      |some (.int .u8)=>some (.row (jdi s) s.length .unk,U)
      |_=>none
    | some (.slice _),some (.slice e),.hsl b off len cap _ =>
      if src=dst then
        match E.P.underlying e,U.heap[b]? with
        |some (.int .u8),some (.cells cs t)=>if len<=cap/\off+len<=cs.length then some (.row ((cs.drop off).take len) len .unk,U.set b (.ro cs t))else none
        |_,_=>none
      else none
    |_,_,_=>none
  | .alloc t=>(ja8 E t).map λz=>(.ptr U.heap.length 0,U.push (.cells z.cells t))
  | .box t x=>(ρ x).map λv=>(.ptr U.heap.length 0,U.push (.cells v.cells t))
  | .buildSlice t len parts=>(jcs ρ parts.toList).bind λps=>(jfE E t).bind λe=>(sz E e).bind λs =>
      (if len*s=0 then some (.agg [])else ja8 E e).bind λz =>
      if len*s<=2^24/\(z.cells.length=s\/len*s=0)then
        (jei (λi=>some (i*s,s)) (List.replicate len z.cells).flatten ps).map λcs =>
          if mutb && !E.rowB then(.hsl U.heap.length 0 len len .exact,U.push (.cells cs e))else(.row cs len .full,U)
      else none
  | .makeSlice t l c=>(ρ l).bind λlv=>(ρ c).bind λcv=>(jfE E t).bind λe=>(sz E e).bind λs=>(bys E e).bind λby' =>
      match lv,cv with
      | .int .i64 l,.int .i64 c =>
        if 0<=l/\l<=c/\c<=lim/\c*by'<=lim then
          (if c.toNat*s=0 then some (.agg [])else ja8 E e).bind λz =>
          if z.cells.length=s\/c.toNat*s=0 then
            if mutb then some (.hsl U.heap.length 0 l.toNat c.toNat .exact,U.push (.cells (List.replicate c.toNat z.cells).flatten e))
            else if l=c then some (.row (List.replicate c.toNat z.cells).flatten c.toNat .full,U)
            else some (.row ((List.replicate c.toNat z.cells).flatten.take (l.toNat*s)) l.toNat (.tok U.toks.length 0 s),⟨U.heap,U.toks++[0]⟩)
          else none
        else none
      |_,_=>none
  | .store t a x=>(ρ a).bind λp=>(ρ x).bind λv=>(sz E t).bind λs =>
      if v.cells.length=s then(jbZ U v.cells p).map λU'=>(.tup [],U')else none
  | .makeMap t none =>
    match E.P.underlying t with
    |some (.map _ _)=>some (.map U.heap.length,U.push (.map [] 0))
    |_=>none
  | .insert t m k x| .mapUpdate t m k x=>(ρ m).bind λmv=>(ρ k).bind λkv=>(ρ x).bind λxv =>
    match E.P.underlying t,mv with
    | some (.map kt _),.map b =>
      match U.heap[b]? with
      | some (.map es clock) =>
        if jdy E 8 kt kv then
          match jdh E kt kv es 0 with
          |some none=>some (.tup [],U.set b (.map (es++[(kv,xv,clock)]) (clock+1)))
          | some (some j) =>
            match es[j]? with
            |some e=>if jhL 8 e.1 kv then some (.tup [],U.set b (.map (es.set j (kv,xv,e.2.2)) clock))else none
            |none=>none
          |none=>none
        else none
      |_=>none
    |_,_=>none
  | .call c =>
    match c.callee with
    | .builtin .append=>(jbK ρ c.args.toList).bind fun
      | [x,y]=>(c.argTypes[0]?).bind λt=>(jfE E t).bind λe=>(sz E e).bind λs=>(bys E e).bind λby' =>
        match c.argTypes[1]? with
        | some t2 =>
          match E.P.underlying t2 with
          |some (.int _)=>jpp E mutb s by' e x y U
          |some _=>(vLen y).bind λm=>(jaT U.heap s m y).bind λnew=>if jhm E e=some s then jbf mutb s by' m e new x U else none
          |none=>none
        |none=>none
      |_=>none
    | .builtin .len=>(jbK ρ c.args.toList).bind fun
      | [v]=>(c.argTypes[0]?).bind λt =>
        match E.P.underlying t,v with
        |some (.map _ _),.nilmap=>some (.int .i64 0,U)
        | some (.map _ _),.map b =>
          match U.heap[b]? with
          |some (.map es _)=>some (.int .i64 es.length,U)
          |_=>none
        |_,_=>none
      |_=>none
    |_=>none
  |_=>none
inductive Ex where
 |normal
 |exit (id:Nat)
 |ret
inductive DE where
 |mark (b:Nat)
inductive Task where
 |call (f:FuncId) (args:List V) (U:S)
 |round (l:Nat) (args:List V) (U:S)
 |loop (fn:FuncId) (rnd:Option Nat) (body:Code) (tmps:List V) (dfs:List DE) (U:S)
structure Res where
 ex:Ex
 vals:List V
 dfs:List DE
 st:S
def putT(tmps:List V)(dst:Option Tmp)(v:V):List V :=
 match dst with
 |some d=>tmps.set d v
 |none=>tmps
def jaJ(ops:Array Oper)(tmps:List V)(j:Nat):Option Bool :=
 match ((ops[j]?).bind (·.dst)).bind (tmps[·]?)with
 |some (.bool b)=>some b
 |_=>none
def V.closed:V->Bool
 | .bool _| .int _ _| .str _| .nilptr| .nilsl| .nilfn| .nilif| .nilmap| .any=>true
 | .ptr _ _| .hsl _ _ _ _ _| .yld _| .map _=>false
 | .rptr cs=>closedL cs
 | .row cs _ cap=>(match cap with| .tok _ _ _=>false|_=>true) && closedL cs
 | .func _ a b=>closedL a && closedL b
 | .iface _ v=>v.closed
 | .meth _ v=>v.closed
 | .agg cs=>closedL cs
 | .tup cs=>closedL cs
 where closedL:List V->Bool
 | []=>true
 |v::r=>v.closed && closedL r
def jaL(h:List AObj):Nat->V->Option V
 |0,_=>none
 | d+1,v =>
  match v with
  | .row cs len _=>(cs.mapM (jaL h d)).map λc=>.row c len .unk
  | .hsl b off len cap _ =>
   match h[b]? with
   |some (.cells cs _)=>if len<=cap then((cs.drop off).mapM (jaL h d)).map λc=>.row c len .unk else none
   |_=>none
  | .tup vs=>(vs.mapM (jaL h d)).map .tup
  | .agg vs=>(vs.mapM (jaL h d)).map .agg
  | .iface t x=>(jaL h d x).map (.iface t)
  |v=>some (if v.closed then v else .any)
def jai:Nat:=12
def RCap.weak:RCap->RCap
 | .tok _ _ _=>.unk
 |c=>c
def V.weak:V->V
 | .row cs len cap=>.row (weakL cs) len cap.weak
 | .rptr cs=>.rptr (weakL cs)
 | .func f a b=>.func f (weakL a) (weakL b)
 | .iface t v=>.iface t v.weak
 | .meth n v=>.meth n v.weak
 | .agg cs=>.agg (weakL cs)
 | .tup cs=>.tup (weakL cs)
 |v=>v
 where weakL:List V->List V
 | []=>[]
 |v::r=>v.weak::weakL r
def wargs(args:List V):List V:=if args.all V.closed then args else args.map V.weak
def jhN(v:V)(U:S):Option (V × S) :=
 match v with
 | .hsl b off len cap _ =>
  match U.heap[b]? with
  |some (.cells cs t)=>if len<=cap/\(V.weak.weakL cs).all V.closed then some (.row ((V.weak.weakL cs).drop off) len .unk,U.set b (.ro (V.weak.weakL cs) t))else none
  |_=>none
 | .ptr b off =>
  match U.heap[b]? with
  |some (.cells cs t)=>if(V.weak.weakL cs).all V.closed then some (.rptr ((V.weak.weakL cs).drop off),U.set b (.ro (V.weak.weakL cs) t))else none
  |_=>none
 |v=>if v.weak.closed then some (v.weak,U)else none
def jdO:List V->S->Option (List V × S)
 | [],U=>some ([],U)
 |v::r,U =>
  match jhN v U with
  |some (v',U1)=>(jdO r U1).map λp=>(v'::p.1,p.2)
  |none=>none
def V.beq:V->V->Bool
 | .bool a,.bool b=>a==b
 | .int k n,.int k' n'=>decide (k=k') && decide (n=n')
 | .str s,.str t=>decide (s=t)
 | .ptr a b,.ptr c d=>decide (a=c) && decide (b=d)
 | .nilptr,.nilptr=>true
 | .rptr a,.rptr b=>beqL a b
 | .hsl a b c d e,.hsl a' b' c' d' e'=>decide (a=a') && decide (b=b') && decide (c=c') && decide (d=d') && decide (e=e')
 | .row a n c,.row b m d=>decide (n=m) && decide (c=d) && beqL a b
 | .nilsl,.nilsl=>true
 | .func f a b,.func g c d=>decide (f=g) && beqL a c && beqL b d
 | .yld a,.yld b=>decide (a=b)
 | .nilfn,.nilfn=>true
 | .iface t v,.iface u w=>decide (t=u) && v.beq w
 | .meth t v,.meth u w=>decide (t=u) && v.beq w
 | .nilif,.nilif=>true
 | .agg a,.agg b=>beqL a b
 | .tup a,.tup b=>beqL a b
 | .nilmap,.nilmap=>true
 | .map a,.map b=>decide (a=b)
 | .any,.any=>true
 |_,_=>false
 where beqL:List V->List V->Bool
 | [],[]=>true
 |a::r,b::s=>a.beq b && beqL r s
 |_,_=>false
def jhO(acc:List Nat)(o:Oper):Nat :=
 o.after.toList.foldl (λs e=>if Region.binds .any e then s |||(2^e.on |||acc.getD e.on 0)else s) 0
def jat(acc:List Nat):List Oper->List Nat
 | []=>acc
 |o::r=>jat (acc++[jhO acc o]) r
def jhP(E:Env)(src dst:TypeId):Bool :=
 match E.P.underlying src,E.P.underlying dst with
 |some .string,some (.slice _)=>true
 |_,_=>false
def scOp(E:Env):Op->Bool
 | .call { callee:=.value (.func f),.. } => !(E.pure f ||(E.hook f).isSome)
 | .call { callee:=.builtin .len,argTypes,.. }=>(match argTypes[0]? with|some t=>(match E.P.underlying t with|some (.map _ _)=>true|_=>false)|none=>false)
 | .call { callee:=.builtin .unsafeSliceData,.. }=>false
 | .call { callee:=.builtin .cap,.. } | .call { callee:=.builtin .max,.. } | .call { callee:=.builtin .min,.. }=>false
 | .convert src dst _=>(match E.P.underlying dst with|some (.slice _)=>true|_=>false) && !jhP E src dst
 | .buildSlice _ _ _ => !E.rowB
 | .call _| .alloc _| .box _ _| .makeSlice _ _ _| .store _ _ _| .makeMap _ _| .insert _ _ _ _| .mapUpdate _ _ _ _| .mapEntry _ _ _| .entryStore _ _ _ _=>true
 |_=>false
def jbO(E:Env):Op->Bool
 | .call { callee:=.value (.func f),.. }=>E.pure f ||(E.hook f).isSome
 | .buildSlice _ _ _=>E.rowB
 | .convert src dst _=>jhP E src dst
 |_=>false
def jsM(E:Env)(ops:Array Oper)(mj:Nat)(i:Nat)(oi oj:Oper):Bool :=
 mj.testBit i ||(oi.apart ops oj && !(scOp E oi.op && scOp E oj.op))
def jcK(E:Env)(ops:Array Oper)(masks:List Nat):Bool :=
 (List.range ops.size).all λj =>
  match ops[j]? with
  | some oj=>(oj.after.toList.all λe => !Region.binds .any e ||decide (e.on<j)) &&
   (List.range j).all λi=>match ops[i]? with
    |some oi=>jsM E ops (masks.getD j 0) i oi oj
    |none=>false
  |none=>false
def jaX(E:Env)(ops:Array Oper)(j:Nat):Nat:=(ops.toList.take j).countP λo=>scOp E o.op
def jgJ(E:Env)(ops:Array Oper)(masks:List Nat)(j m:Nat):Bool :=
 (List.range ops.size).all λi =>
  match ops[i]? with
  |some oi => !scOp E oi.op ||
   ((!(masks.getD j 0).testBit i ||decide (jaX E ops i<m)) && (!(masks.getD i 0).testBit j ||decide (m<=jaX E ops i)))
  |none=>true
section
variable (E:Env)(rec:Task->Option Res)
def jaf(f:FuncId)(args:List V)(U:S):Option (V × S) :=
 match E.hook f with
 |some g=>(g args).map λv=>(v,U)
 | none =>
  if E.pure f then
   if(wargs args).all V.closed then
    match rec (.call f (wargs args) S.empty)with
    |some { ex:=.ret,vals:=[v],dfs:=[],st:=U' }=>(jaL U'.heap jai v).map λv'=>(v',U)
    |_=>none
   else none
  else if E.frz f then
   match jdO args U with
   |some (args',U1) =>
    match rec (.call f args' S.empty)with
    |some { ex:=.ret,vals:=[v],dfs:=[],st:=U' }=>(jaL U'.heap jai v).map λv'=>(v',U1)
    |_=>none
   |none=>none
  else
   match E.hookS f with
   |some g=>g args U
   |none =>
    match rec (.call f args U)with
    |some { ex:=.ret,vals:=[v],dfs:=[],st:=U' }=>some (v,U')
    |_=>none
def jd9(g:V)(args:List V)(U:S):Option (V × S) :=
 match g with
 | .func f first captured=>jaf E rec f (first++args++captured) U
 | .yld l =>
  match rec (.round l args U)with
  |some { ex:=.ret,vals:=[v],dfs:=[],st:=U' }=>some (v,U')
  |_=>none
 |_=>none
def opV(mutb:Bool)(tmps:List V)(U:S)(op:Op):Option (V × S) :=
 match jba E (jbr E tmps) op with
 |some v=>some (v,U)
 | none =>
  match jbp E (jbr E tmps) U op with
  |some v=>some (v,U)
  | none =>
   match op with
   | .call { callee:=.value g,args,.. } =>
    (jbr E tmps g).bind λgv=>(jbK (jbr E tmps) args.toList).bind λas=>jd9 E rec gv as U
   | .call { callee:=.invoke x name,args,.. } =>
    (jbr E tmps x).bind λxv=>(jfT E xv name).bind λp=>(jbK (jbr E tmps) args.toList).bind λas=>jaf E rec p.1 (p.2::as) U
   |op=>jbs E mutb (jbr E tmps) U op
def jdb(mutb:Bool)(ops:Array Oper):List Nat->List V->S->Option (List V × S)
 | [],tmps,U=>some (tmps,U)
 | i::is,tmps,U =>
  match ops[i]? with
  |none=>none
  | some o =>
   if Region.wanted o (jaJ ops tmps)then
    match opV E rec mutb tmps U o.op with
    |some (v,U')=>jdb mutb ops is (putT tmps o.dst v) U'
    |none=>none
   else jdb mutb ops is (putT tmps o.dst (.tup [])) U
def dRun(mutb:Bool)(ops:Array Oper):List Oper->List V->S->Option (List (List V × V) × List S × List V × S)
 | [],tmps,U=>some ([],[],tmps,U)
 | o::r,tmps,U =>
  match (if Region.wanted o (jaJ ops tmps)then opV E rec mutb tmps U o.op else some (.tup [],U))with
  |some (v,U') =>
   match dRun mutb ops r (putT tmps o.dst v) U' with
   |some (tr,ss,tf,Uf)=>some ((tmps,v)::tr,if scOp E o.op then U'::ss else ss,tf,Uf)
   |none=>none
  |none=>none
def jeP(ops:Array Oper)(masks:List Nat)(tr:List (List V × V))(ss:List S):Bool :=
 (List.range ops.size).all λj =>
  match ops[j]?,tr[j]? with
  | some o,some (tmps,v) =>
   scOp E o.op ||jbO E o.op || !Region.wanted o (jaJ ops tmps) ||(jba E (jbr E tmps) o.op).isSome ||
   (List.range ss.length).all λm => !jgJ E ops masks j m ||
    (match ss[m]? with
     |some U=>(match jbp E (jbr E tmps) U o.op with|some u=>u.beq v|none=>false)
     |none=>false)
  |_,_=>false
def jbg:Op->Bool
 | .alloc _=>true
 |_=>false
def jpq:Op->Bool
 | .store _ _ _=>true
 |_=>false
def jpr:Op->Bool
 | .load _ _=>true
 | .lookup _ _ _ _=>true
 | .convert _ _ _=>true
 |_=>false
def preL(E:Env):List Oper->Option (List AObj)
 | []=>some []
 |o::r =>
  match o.op with
  | .alloc t=>(ja8 E t).bind λz=>(preL E r).map λl=>.cells z.cells t::l
  |_=>preL E r
section
variable (E:Env)(rec:Task->Option Res)
def jfF(mutb:Bool)(ops:Array Oper)(N:Nat):List Oper->Nat->List V->S->Option (List (List V × V) × List V × S)
 | [],_,tmps,U=>some ([],tmps,U)
 | o::l,r,tmps,U =>
  match (if Region.wanted o (jaJ ops tmps)then(if jbg o.op then some (.ptr (N+r) 0,U)else opV E rec mutb tmps U o.op)else some (.tup [],U))with
  |some (v,U') =>
   match jfF mutb ops N l (if jbg o.op then r+1 else r) (putT tmps o.dst v) U' with
   |some (tr,tf,Uf)=>some ((tmps,v)::tr,tf,Uf)
   |none=>none
  |none=>none
def jrG(ops:Array Oper)(masks:List Nat):Bool :=
 (List.range ops.size).all λj =>
  match ops[j]? with
  | some oj=>(oj.after.toList.all λe => !Region.binds .any e ||decide (e.on<j)) && (!jbg oj.op ||oj.guard.isNone) &&
   (List.range j).all λi=>match ops[i]? with
    |some oi=>(masks.getD j 0).testBit i ||oi.apart ops oj
    |none=>false
  |none=>false
def jcW(masks:List Nat)(i c:Nat):Prop :=
 c.testBit i=false/\(∀i',(masks.getD i 0).testBit i'=true->i' ≠ i->c.testBit i'=true)/\∀i',(masks.getD i' 0).testBit i=true->c.testBit i'=false
def jnk(mutb:Bool)(ops:Array Oper)(masks:List Nat)(k:Nat)(U Uf:S)(tr:List (List V × V))(St:Nat->S):Prop :=
 St 0=⟨U.heap++List.replicate k .resv,U.toks⟩/\(∀c,(∀i,i<ops.size->c.testBit i=true)->c<2^ops.size->St c=Uf) /\
 ∀ i o t v,ops[i]? = some o->tr[i]? = some (t,v)->∀c,c<2^ops.size->jcW masks i c ->
  if Region.wanted o (jaJ ops t)=true then
   (jbg o.op=true->∃n ty z,o.op=.alloc ty/\v=.ptr n 0/\(St c).heap[n]? = some .resv/\ja8 E ty=some z/\St (c |||2^i)=(St c).set n (.cells z.cells ty)) /\
   (jbg o.op=false->opV E rec mutb t (St c) o.op=some (v,St (c |||2^i)))
  else St (c |||2^i)=St c
open Classical in
noncomputable def jga(mutb:Bool)(ops:Array Oper)(tmps:List V)(U:S):Option (List V × S) :=
 if jrG ops (jat [] ops.toList)then
  match preL E ops.toList with
  |some l =>
   match jfF E rec mutb ops U.heap.length ops.toList 0 tmps ⟨U.heap++l,U.toks⟩with
   |some (tr,tf,Uf)=>if ∃St,jnk E rec mutb ops (jat [] ops.toList) l.length U Uf tr St then some (tf,Uf)else none
   |none=>none
  |none=>none
 else none
end
noncomputable def ja0(fn:FuncId)(rnd:Option Nat):Code->List V->List DE->S->Option Res
 | .skip,tmps,dfs,U=>some ⟨.normal,tmps,dfs,U⟩
 | .label _,tmps,dfs,U=>some ⟨.normal,tmps,dfs,U⟩
 | .exit id,tmps,dfs,U=>some ⟨.exit id,tmps,dfs,U⟩
 | .ret,tmps,dfs,U=>some ⟨.ret,tmps,dfs,U⟩
 | .seq a b,tmps,dfs,U =>
  match ja0 fn rnd a tmps dfs U with
  |some ⟨.normal,tmps,dfs,U⟩=>ja0 fn rnd b tmps dfs U
  |r=>r
 | .cond c a b,tmps,dfs,U =>
  match jbr E tmps c with
  |some (.bool true)=>ja0 fn rnd a tmps dfs U
  |some (.bool false)=>ja0 fn rnd b tmps dfs U
  |_=>none
 | .block id c,tmps,dfs,U =>
  match ja0 fn rnd c tmps dfs U with
  |some ⟨.exit i,tmps,dfs,U⟩=>some ⟨if i=id then .normal else .exit i,tmps,dfs,U⟩
  |r=>r
 | .loop c,tmps,dfs,U=>rec (.loop fn rnd c tmps dfs U)
 | .scope c,tmps,dfs,U=>ja0 fn rnd c tmps dfs U
 | .region id ops false,tmps,dfs,U=>(jdb E rec (E.mutb fn id) ops (List.range ops.size) tmps U).map λp=>⟨.normal,p.1,dfs,p.2⟩
 | .region id ops true,tmps,dfs,U =>
  if jcK E ops (jat [] ops.toList)then
   match dRun E rec (E.mutb fn id) ops ops.toList tmps U with
   |some (tr,ss,tf,Uf)=>if jeP E ops (jat [] ops.toList) tr (U::ss)then some ⟨.normal,tf,dfs,Uf⟩else none
   |none=>none
  else(jga E rec (E.mutb fn id) ops tmps U).map λp=>⟨.normal,p.1,dfs,p.2⟩
 | .rangeFunc f ps asg body,tmps,dfs,U =>
  match jbr E tmps f,rnd with
  | some g,none =>
   let l:=U.heap.length+1
   let U1:S:=⟨U.heap++[.defd true,.loop .ready none fn tmps ps asg body U.heap.length],U.toks⟩
   match (match g with
    | .func f first captured=>rec (.call f (first++[V.yld l]++captured) U1)
    |_=>none)with
   | some { ex:=.ret,vals:=[_],dfs:=[],st:=U2 } =>
    match U2.heap[l]? with
    |some (.loop st pend fn' tmps' ps' asg' body' dfr) =>
     if st=LoopState.busy then none else
     let U3:=U2.set l (.loop .exhausted pend fn' tmps' ps' asg' body' dfr)
     match pend with
     |none=>some ⟨.normal,tmps,DE.mark U.heap.length::dfs,U3⟩
     |some (.exit i)=>some ⟨.exit i,tmps,DE.mark U.heap.length::dfs,U3⟩
     |some .ret=>some ⟨.ret,tmps,DE.mark U.heap.length::dfs,U3⟩
     |_=>none
    |_=>none
   |_=>none
  |_,_=>none
 |_,_,_,_=>none
def resV(tmps:List V)(h:List AObj):List ResultVar->Option (List V)
 | []=>some []
 | .tmp t::r=>(resV tmps h r).map (tmps.getD t (.tup []) :: ·)
 | .cell a t::r=>(jaF E h t (tmps.getD a (.tup []))).bind λv=>(resV tmps h r).map (v :: ·)
def jay:List V->V
 | [v]=>v
 |vs=>.tup vs
def jcj(h:List AObj):List DE->Option (List AObj)
 | []=>some h
 | .mark b::r =>
  match h[b]? with
  |some (.defd true)=>jcj (h.set b (.defd false)) r
  |_=>none
noncomputable def jea(t:Task):Option Res :=
  match t with
  | .call f args U =>
    match E.P.funcs[f]? with
    | some fn =>
      match fn.body with
      | some body =>
        if fn.name = "runtime.NumGoroutine" then none else
        match ja0 E rec f none body (args++List.replicate (fn.ntmps-args.length) (.tup [])) [] U with
        |some ⟨.exit _,_,_,_⟩=>none
        | some ⟨_,tmps,dfs,U'⟩ =>
          match jcj U'.heap dfs with
          | some h =>
            match resV E tmps h fn.results.toList with
            |some vs=>some ⟨.ret,[jay vs],[],⟨h,U'.toks⟩⟩
            |none=>none
          |none=>none
        |none=>none
      |none=>none
    |none=>none
  | .round l args U =>
    match U.heap[l]? with
    | some (.loop .ready none fn tmps ps asg body _) =>
      if args.length ≠ ps.size then none else
      match ja0 E rec fn (some l) asg ((ps.toList.zip args).foldl (λts (t,a)=>ts.set t a) tmps) [] U with
      | some ⟨.normal,tmps1,[],U1⟩ =>
        match U1.heap[l]? with
        | some (.loop .ready none fn1 tm1 ps1 as1 bo1 df1) =>
          match ja0 E rec fn (some l) body tmps1 [] (U1.set l (.loop .busy none fn1 tm1 ps1 as1 bo1 df1))with
          | some ⟨ex,_,[],U2⟩ =>
            match U2.heap[l]? with
            | some (.loop _ _ fn2 tm2 ps2 as2 bo2 df2) =>
              match ex with
              | .normal=>some ⟨.ret,[.bool true],[],U2.set l (.loop .ready none fn2 tm2 ps2 as2 bo2 df2)⟩
              | .ret=>some ⟨.ret,[.bool false],[],U2.set l (.loop .done (some .ret) fn2 tm2 ps2 as2 bo2 df2)⟩
              | .exit i=>some ⟨.ret,[.bool false],[],U2.set l (.loop .done (some (.exit i)) fn2 tm2 ps2 as2 bo2 df2)⟩
            |_=>none
          |_=>none
        |_=>none
      |_=>none
    |_=>none
  | .loop fn rnd c tmps dfs U =>
    match ja0 E rec fn rnd c tmps dfs U with
    |some ⟨.normal,tmps',dfs',U'⟩=>rec (.loop fn rnd c tmps' dfs' U')
    |r=>r
end
noncomputable def run(E:Env):Nat->Task->Option Res
 |0,_=>none
 |n+1,t=>jea E (run E n) t
open Go.RowKit (Below)
structure Ctx where
 base:Nat
 blk:Nat->Option Nat
 pin:Nat->Nat->Option Value
 tok:Nat->Nat->Option (Nat × Nat × Nat × Nat)
 siz:Nat->Option Nat
def jck(Γ:Ctx)(cap:RCap)(a:Addr)(len c:Nat):Prop :=
 match cap with
 | .full=>c=len
 | .tok k e s=>∃b pos spare,Γ.tok k e=some (b,pos,spare,s)/\c=len+spare/\(spare=0\/(a=⟨b,pos-len*s,none⟩/\len*s<=pos))
 | .unk=>len<=c
def HRel(Γ:Ctx)(ex:HCap)(c off cap c':Nat):Prop :=
 match ex with
 | .exact=>c'=cap
 | .least=>True
 | .grow s=>(∃n,Γ.siz c=some n/\off+c'*s<=n)/\c'<=maxLen
 | .both s=>c'=cap/\∃n,Γ.siz c=some n/\off+c'*s<=n
def jlV:Value->Bool
 | .bool _=>false
 |x=>x.oneCell'
theorem jlV.one {x:Value}(h:jlV x=true):x.oneCell'=true:=by cases x<;>first|exact h|(simp[jlV]at h)
inductive VRel (Γ:Ctx):V->Value->Prop
 |bool (b:Bool):VRel Γ (.bool b) (.bool b)
 |int (k:IntKind) (n:Int):VRel Γ (.int k n) (.int k n)
 |str (x:ByteArray):VRel Γ (.str x.data.toList) (.string x)
 |ptr (b off c:Nat) (h:Γ.blk b=some c):VRel Γ (.ptr b off) (.pointer (some ⟨c,off,none⟩))
 |nilptr:VRel Γ .nilptr (.pointer none)
 | rptr (cells:List V) (a:Addr) (xs:Nat->Value) (hp:∀i,i<cells.length->a.spot=none/\Γ.pin a.block (a.off+i)=some (xs i))
   (hr:∀i (h:i<cells.length),VRel Γ cells[i] (xs i)):VRel Γ (.rptr cells) (.pointer (some a))
 |hsl (b off len cap:Nat) (ex:HCap) (c c':Nat) (h:Γ.blk b=some c) (hc:cap<=c'/\HRel Γ ex c off cap c'):VRel Γ (.hsl b off len cap ex) (.slice (some ⟨c,off,none⟩) len c')
 | row (cells:List V) (len:Nat) (cap:RCap) (a:Addr) (c:Nat) (xs:Nat->Value) (hp:∀i,i<cells.length->a.spot=none/\Γ.pin a.block (a.off+i)=some (xs i))
   (hr:∀i (h:i<cells.length),VRel Γ cells[i] (xs i)) (hc:jck Γ cap a len c):VRel Γ (.row cells len cap) (.slice (some a) len c)
 |nilsl:VRel Γ .nilsl (.slice none 0 0)
 | func (f:FuncId) (fs cs:List V) (xs ys:Array Value) (hx:fs.length=xs.size) (hxr:∀i (h:i<fs.length) (h2:i<xs.size),VRel Γ fs[i] xs[i])
   (hy:cs.length=ys.size) (hyr:∀i (h:i<cs.length) (h2:i<ys.size),VRel Γ cs[i] ys[i]):VRel Γ (.func f fs cs) (.func (.func f) xs ys)
 |yld (l c:Nat) (h:Γ.blk l=some c):VRel Γ (.yld l) (.func (.yield c) #[] #[])
 |nilfn:VRel Γ .nilfn .nilFunc
 |iface (t:TypeId) (v:V) (x:Value) (h:VRel Γ v x):VRel Γ (.iface t v) (.iface t x)
 |nilif:VRel Γ .nilif .nilIface
 |agg (cs:List V) (xs:Array Value) (hl:cs.length=xs.size) (hr:∀i (h:i<cs.length) (h2:i<xs.size),VRel Γ cs[i] xs[i]):VRel Γ (.agg cs) (.agg xs)
 |tup (cs:List V) (xs:Array Value) (hl:cs.length=xs.size) (hr:∀i (h:i<cs.length) (h2:i<xs.size),VRel Γ cs[i] xs[i]):VRel Γ (.tup cs) (.tuple xs)
 |nilmap:VRel Γ .nilmap (.map none)
 |map (b c:Nat) (h:Γ.blk b=some c):VRel Γ (.map b) (.map (some c))
 |meth (name:String) (v:V) (x:Value) (h:VRel Γ v x):VRel Γ (.meth name v) (.func (.method name) #[x] #[])
 |any (x:Value) (h:jlV x=true):VRel Γ .any x
structure LRel (Γ:Ctx) (vs:List V) (xs:Array Value):Prop where
 len:vs.length=xs.size
 rel:∀i (h:i<vs.length) (h2:i<xs.size),VRel Γ vs[i] xs[i]
structure Ctx.le (Γ Γ':Ctx):Prop where
 base:Γ'.base=Γ.base
 blk:∀b c,Γ.blk b=some c->Γ'.blk b=some c
 pin:∀b i x,Γ.pin b i=some x->Γ'.pin b i=some x
 tok:∀k e x,Γ.tok k e=some x->Γ'.tok k e=some x
 newpin:∀b i x,Γ'.pin b i=some x->Γ.pin b i=some x\/Γ.base<=b
 siz:∀c n,Γ.siz c=some n->Γ'.siz c=some n
theorem Ctx.le.refl(Γ:Ctx):Γ.le Γ:=⟨rfl,λ_ _ h=>h,λ_ _ _ h=>h,λ_ _ _ h=>h,λ_ _ _ h=>.inl h,λ_ _ h=>h⟩
theorem Ctx.le.trans {A B C:Ctx}(h:A.le B)(k:B.le C):A.le C :=
  ⟨k.base.trans h.base,λ_ _ e=>k.blk _ _ (h.blk _ _ e),λ_ _ _ e=>k.pin _ _ _ (h.pin _ _ _ e),λ_ _ _ e=>k.tok _ _ _ (h.tok _ _ _ e),
   λ_ _ _ e=>(k.newpin _ _ _ e).elim (λe=>h.newpin _ _ _ e) (λe=>.inr (h.base ▸ e)),λ_ _ e=>k.siz _ _ (h.siz _ _ e)⟩
theorem HRel.mono {Γ Γ':Ctx}(hle:∀c n,Γ.siz c=some n->Γ'.siz c=some n){ex:HCap}{c off cap c':Nat}(h:HRel Γ ex c off cap c'):HRel Γ' ex c off cap c':=by
 cases ex<;>first|exact h|exact⟨h.1.imp λn hn=>⟨hle _ _ hn.1,hn.2⟩,h.2⟩|exact⟨h.1,h.2.imp λn hn=>⟨hle _ _ hn.1,hn.2⟩⟩
theorem jck.mono {Γ Γ':Ctx}(hle:∀k e x,Γ.tok k e=some x->Γ'.tok k e=some x){cap:RCap}{a:Addr}{len c:Nat}(h:jck Γ cap a len c):jck Γ' cap a len c:=by
 cases cap with
 |full=>exact h
 |unk=>exact h
 |tok k e s=>obtain⟨b,pos,spare,h1,h2⟩:=h;exact⟨b,pos,spare,hle _ _ _ h1,h2⟩
theorem VRel.mono {Γ Γ':Ctx}(hle:Γ.le Γ'){v:V}{x:Value}(h:VRel Γ v x):VRel Γ' v x:=by
 induction h with
 |bool b=>exact .bool b
 |int k n=>exact .int k n
 |str x=>exact .str x
 |ptr b off c h=>exact .ptr b off c (hle.blk _ _ h)
 |nilptr=>exact .nilptr
 |rptr cells a xs hp hr ih=>exact .rptr cells a xs (λi h=>⟨(hp i h).1,hle.pin _ _ _ (hp i h).2⟩) ih
 |hsl b off len cap ex c c' h hc=>exact .hsl b off len cap ex c c' (hle.blk _ _ h) ⟨hc.1,hc.2.mono hle.siz⟩
 |row cells len cap a c xs hp hr hc ih=>exact .row cells len cap a c xs (λi h=>⟨(hp i h).1,hle.pin _ _ _ (hp i h).2⟩) ih (hc.mono hle.tok)
 |nilsl=>exact .nilsl
 |func f fs cs xs ys hx hxr hy hyr ih1 ih2=>exact .func f fs cs xs ys hx ih1 hy ih2
 |yld l c h=>exact .yld l c (hle.blk _ _ h)
 |nilfn=>exact .nilfn
 |iface t v x h ih=>exact .iface t v x ih
 |nilif=>exact .nilif
 |agg cs xs hl hr ih=>exact .agg cs xs hl ih
 |tup cs xs hl hr ih=>exact .tup cs xs hl ih
 |nilmap=>exact .nilmap
 |map b c h=>exact .map b c (hle.blk _ _ h)
 |meth n v x h ih=>exact .meth n v x ih
 |any x h=>exact .any x h
theorem LRel.mono {Γ Γ':Ctx}(hle:Γ.le Γ'){vs:List V}{xs:Array Value}(h:LRel Γ vs xs):LRel Γ' vs xs :=
 ⟨h.len,λi a b=>(h.rel i a b).mono hle⟩
theorem LRel.nil(Γ:Ctx):LRel Γ [] #[]:=⟨rfl,λi h=>absurd h ae⟩
theorem LRel.getD {Γ:Ctx}{vs:List V}{xs:Array Value}(h:LRel Γ vs xs)(i:Nat):VRel Γ (vs.getD i (.tup [])) (xs.getD i undef):=by
 by_cases hi:i<vs.length
 ·have h2:i<xs.size:=h.len ▸ hi;have e1:vs.getD i (.tup [])=vs[i]:=by simp[List.getD,hi]
  have e2:xs.getD i undef=xs[i]:=by simp[Array.getD,h2]
  rw[e1,e2];exact h.rel i hi h2
 ·have h2:¬i<xs.size:=h.len ▸ hi;have e0:vs[i]? = none:=Ql aa;have e1:vs.getD i (.tup [])=.tup []:=by simp[List.getD,e0]
  have e2:xs.getD i undef=.tuple #[]:=by simp[Array.getD,h2,undef]
  rw[e1,e2];exact .tup [] #[] rfl (λi h=>absurd h ae)
theorem LRel.set {Γ:Ctx}{vs:List V}{xs:Array Value}(h:LRel Γ vs xs)(i:Nat){v:V}{x:Value}(hv:VRel Γ v x):LRel Γ (vs.set i v) (xs.setIfInBounds i x):=by
 refine⟨by simp[h.len],λj a b => ?_⟩;rw[List.getElem_set,Array.getElem_setIfInBounds (by simpa using b)];split
 ·exact hv
 ·exact h.rel j _ _
theorem LRel.get? {Γ:Ctx}{vs:List V}{xs:Array Value}(h:LRel Γ vs xs){i:Nat}{v:V}(hv:vs[i]? = some v):∃x,xs[i]? = some x/\VRel Γ v x:=by
 obtain⟨hi,rfl⟩:=K4.1 hv;have h2:i<xs.size:=h.len ▸ hi;exact⟨xs[i],by simp[h2],h.rel i hi h2⟩
theorem LRel.append {Γ:Ctx}{vs us:List V}{xs ys:Array Value}(h:LRel Γ vs xs)(k:LRel Γ us ys):LRel Γ (vs++us) (xs++ys):=by
 refine⟨by simp[h.len,k.len],λi a b => ?_⟩;have hl:=h.len;rw[Ve,Array.getElem_append];by_cases hi:i<vs.length
 ·rw[dif_pos hi,dif_pos aa];exact h.rel i _ _
 ·rw[dif_neg hi,dif_neg aa];have:=k.rel (i-vs.length) (by simp at a;omega) (by simp at b;omega);simpa[hl]using this
theorem LRel.replicate {Γ:Ctx}(n:Nat){v:V}{x:Value}(hv:VRel Γ v x):LRel Γ (List.replicate n v) (Array.replicate n x) :=
 ⟨ae,λi a b=>by simpa using hv⟩
theorem LRel.cons {Γ:Ctx}{v:V}{vs:List V}{x:Value}{xs:Array Value}(hv:VRel Γ v x)(h:LRel Γ vs xs):LRel Γ (v::vs) (#[x]++xs):=by
 have:=LRel.append (Γ:=Γ) (vs:=[v]) (xs := #[x]) ⟨rfl,λi a b=>by
  have:i=0:=by simp at a;omega
  subst this;exact hv⟩ h
 simpa using this
theorem LRel.one {Γ:Ctx}{v:V}{x:Value}(hv:VRel Γ v x):LRel Γ [v] #[x]:=by simpa using LRel.cons hv (LRel.nil Γ)
def ORel(Γ:Ctx):AObj->Obj->Prop
 | .cells cs t,.cells xs t' f=>t=t'/\f=(0,0)/\cs.length<=xs.size/\∀i (h:i<cs.length) (h2:i<xs.size),VRel Γ cs[i] xs[i]
 | .loop st pend fn tmps ps asg body dfr,.loop r=>r.state=st/\r.pending=pend/\r.fn=fn/\LRel Γ tmps r.tmps/\r.params=ps/\r.assign=asg/\r.body=body/\Γ.blk dfr=some r.defers
 | .defd true,.deferred (some [])=>True
 | .defd false,.deferred none=>True
 | .iter s pos,.stringIter x p=>x.data.toList=s/\p=pos
 | .ro cs t,.cells xs t' f=>t=t'/\f=f/\cs.length<=xs.size/\∀i (h:i<cs.length) (h2:i<xs.size),VRel Γ cs[i] xs[i]
 | .map es clock,.map xs clock'=>clock=clock'/\es.length=xs.size/\∀i (h:i<es.length) (h2:i<xs.size),VRel Γ es[i].1 xs[i].key/\VRel Γ es[i].2.1 xs[i].val/\es[i].2.2=xs[i].born
 | .dead,_=>True
 |_,_=>False
theorem ORel.mono {Γ Γ':Ctx}(hle:Γ.le Γ'){a:AObj}{o:Obj}(h:ORel Γ a o):ORel Γ' a o:=by
 cases a with
 |cells cs t =>
  cases o<;>simp only[ORel]at h ⊢;exact⟨h.1,h.2.1,h.2.2.1,λi a b=>(h.2.2.2 i a b).mono hle⟩
 |loop st pend fn tmps ps asg body dfr =>
  cases o<;>simp only[ORel]at h ⊢;obtain⟨h1,h2,h3,h4,h5,h6,h7,h8⟩:=h;exact⟨h1,h2,h3,h4.mono hle,h5,h6,h7,hle.blk _ _ h8⟩
 |defd b =>
  cases b<;>cases o<;>first|exact h|(rename_i c;cases c<;>first|exact h|(rename_i l;cases l<;>exact h))
 |iter s pos=>cases o<;>simp only[ORel]at h ⊢;exact h
 |ro cs t =>
  cases o<;>simp only[ORel]at h ⊢;exact⟨h.1,h.2.1,h.2.2.1,λi a b=>(h.2.2.2 i a b).mono hle⟩
 |dead=>cases o<;>trivial
 |resv=>cases o<;>exact h
 |map es clock =>
  cases o<;>simp only[ORel]at h ⊢;exact⟨h.1,h.2.1,λi a b=>⟨(h.2.2 i a b).1.mono hle,(h.2.2 i a b).2.1.mono hle,(h.2.2 i a b).2.2⟩⟩
structure WRel (Γ:Ctx) (U:S) (w:World):Prop where
 size:Γ.base<=w.heap.size
 pins:∀b i x,Γ.pin b i=some x->w.cell? ⟨b,i,none⟩=some x
 live:∀a o,U.heap[a]? = some o->(o=.resv/\Γ.blk a=none)\/∃c ob,Γ.blk a=some c/\w.heap[c]? = some ob/\ORel Γ o ob/\Γ.base<=c/\(o.isRo=false->∀i,Γ.pin c i=none)
 dom:∀a c,Γ.blk a=some c->a<U.heap.length
 inj:∀a a' c,Γ.blk a=some c->Γ.blk a'=some c->(∀o,U.heap[a]? = some o->o ≠ .dead)->(∀o,U.heap[a']? = some o->o ≠ .dead)->a=a'
 toks:∀k e,U.toks[k]? = some e->∃b pos spare s t xs,Γ.tok k e=some (b,pos,spare,s)/\w.heap[b]? = some (.cells xs t (0,0))/\xs.size=pos+spare*s/\Γ.base<=b /\
  (∀i,pos<=i->Γ.pin b i=none)/\∀a,Γ.blk a ≠ some b
 tokdom:∀k e x,Γ.tok k e=some x->∃e',U.toks[k]? = some e'/\e<=e'
 tokinj:∀k k' e e' b p q,U.toks[k]? = some e->U.toks[k']? = some e'->Γ.tok k e=some (b,p)->Γ.tok k' e'=some (b,q)->k=k'
 sizes:∀c n,Γ.siz c=some n->∃xs t f,w.heap[c]? = some (.cells xs t f)/\xs.size=n
structure Moved (Γ Γ':Ctx) (U':S) (w w':World):Prop where
 le:Γ.le Γ'
 rel:WRel Γ' U' w'
 below:Below Γ.base w w'
theorem Moved.refl {Γ:Ctx}{U:S}{w:World}(h:WRel Γ U w):Moved Γ Γ U w w:=⟨Ctx.le.refl Γ,h,Below.refl _ _⟩
theorem Moved.trans {A B C:Ctx}{U U':S}{w w' w'':World}(h:Moved A B U w w')(k:Moved B C U' w' w''):Moved A C U' w w'' :=
 ⟨h.le.trans k.le,k.rel,h.below.trans (h.le.base ▸ k.below)⟩
section
variable {P:Program}{w:World}{Γ:Ctx}
theorem jag {t:TypeId}{d:TypeDesc}(h:P.underlying t=some d):(underlying t).run P w=.ok d w:=by simp[underlying,h]
theorem jaN {t:TypeId}{s:Nat}(h:(P.info? t).map (·.size)=some s):(sizeOf t).run P w=.ok s w:=by
 cases hi:P.info? t with
 |none=>simp[hi]at h
 |some i=>simp[hi]at h;simp[sizeOf,typeInfo,hi,h]
theorem jfm {E:Env}{t:TypeId}{g:Bool}(h:aggT E t=some g):(isAgg t).run E.P w=.ok g w:=by
 unfold aggT at h;cases hu:E.P.underlying t with
 |none=>simp[hu]at h
 |some d=>rw[hu]at h;cases d<;>simp at h<;>subst h<;>simp[isAgg,underlying,hu]
theorem jaU {a:Addr}{n:Nat}(h:a.spot=none):a.add n=⟨a.block,a.off+n,none⟩:=by
 cases a;simp at h;subst h;unfold Addr.add;split<;>simp_all
theorem jfH(a:Addr)(n:Nat):(a.add n).block=a.block:=by unfold Addr.add;split<;>rfl
theorem jha(a:Addr)(n:Nat):(a.add n).off=a.off+n:=by unfold Addr.add;split<;>simp_all
theorem jfI {a:Addr}{n:Nat}(h:a.spot=none):(a.add n).spot=none:=by rw[jaU h]
theorem VRel.int_inv {k:IntKind}{n:Int}{x:Value}(h:VRel Γ (.int k n) x):x=.int k n:=by cases h;rfl
theorem VRel.bool_inv {b:Bool}{x:Value}(h:VRel Γ (.bool b) x):x=.bool b:=by cases h;rfl
theorem VRel.str_inv {s:List UInt8}{x:Value}(h:VRel Γ (.str s) x):∃b:ByteArray,x=.string b/\b.data.toList=s:=by cases h;exact⟨_,rfl,rfl⟩
theorem VRel.agg_inv {s:List V}{x:Value}(h:VRel Γ (.agg s) x):∃xs,x=.agg xs/\LRel Γ s xs:=by cases h;exact⟨_,rfl,‹_›,‹_›⟩
theorem VRel.tup_inv {s:List V}{x:Value}(h:VRel Γ (.tup s) x):∃xs,x=.tuple xs/\LRel Γ s xs:=by cases h;exact⟨_,rfl,‹_›,‹_›⟩
theorem VRel.mkStr {s:List UInt8}{b:ByteArray}(h:b.data.toList=s):VRel Γ (.str s) (.string b):=by subst h;exact .str b
theorem VRel.mkAgg {s:List V}{xs:Array Value}(h:LRel Γ s xs):VRel Γ (.agg s) (.agg xs):=.agg _ _ h.len h.rel
theorem VRel.mkTup {s:List V}{xs:Array Value}(h:LRel Γ s xs):VRel Γ (.tup s) (.tuple xs):=.tup _ _ h.len h.rel
theorem LRel.mkList {vs:List V}{xs:List Value}(hl:vs.length=xs.length)(hr:∀i (h:i<vs.length) (h2:i<xs.length),VRel Γ vs[i] xs[i]):LRel Γ vs xs.toArray :=
 ⟨by simpa using hl,λi a b=>by simpa using hr i a (by simpa using b)⟩
theorem VRel.cells {v:V}{x:Value}(h:VRel Γ v x):LRel Γ v.cells x.cells:=by
 cases h with
 |agg cs xs hl hr=>exact⟨hl,hr⟩
 |bool=>exact LRel.one (.bool _)
 |int=>exact LRel.one (.int _ _)
 |str=>exact LRel.one (.str _)
 |ptr b off c h=>exact LRel.one (.ptr _ _ _ h)
 |nilptr=>exact LRel.one .nilptr
 |rptr cells a xs hp hr=>exact LRel.one (.rptr _ _ xs hp hr)
 |hsl b off len cap ex c c' h hc=>exact LRel.one (.hsl _ _ _ _ _ _ _ h hc)
 |row cells len cap a c xs hp hr hc=>exact LRel.one (.row _ _ _ _ _ xs hp hr hc)
 |nilsl=>exact LRel.one .nilsl
 |func f fs cs xs ys a b c d=>exact LRel.one (.func _ _ _ _ _ a b c d)
 |yld l c h=>exact LRel.one (.yld _ _ h)
 |nilfn=>exact LRel.one .nilfn
 |iface t v x h=>exact LRel.one (.iface _ _ _ h)
 |nilif=>exact LRel.one .nilif
 |tup cs xs a b=>exact LRel.one (.tup _ _ a b)
 |nilmap=>exact LRel.one .nilmap
 |map b c h=>exact LRel.one (.map b c h)
 |meth n v x h=>exact LRel.one (.meth n v x h)
 |any x h =>
  have h1:=jlV.one h;have:x.cells = #[x]:=by cases x<;>first|rfl|(simp[Value.oneCell']at h1)
  rw[this];exact LRel.one (.any x h)
theorem VRel.isCell {v:V}{x:Value}(h:VRel Γ v x):x.oneCell'=v.isCell:=by cases h<;>first|rfl|exact jlV.one ‹_›
theorem jiX {x:Value}{v:V}(h:jkA x=some v):VRel Γ v x:=by
 unfold jkA at h;split at h<;>first|(simp at h;done)|(simp at h;subst h;first|exact .bool _|exact .int _ _|exact .str _|exact .nilptr|exact .nilsl|exact .nilfn|exact .nilif|exact .nilmap)
theorem jlW {l:List Value}{vs:List V}(h:l.mapM jkA=some vs):LRel Γ vs l.toArray:=by
 induction l generalizing vs with
 |nil=>simp at h;subst h;exact LRel.nil Γ
 |cons x l ih =>
  simp only[Xu,Option.bind_eq_bind,Ko,Option.pure_def,Ke]at h;obtain⟨v,hv,us,hu,rfl⟩:=h;simpa using LRel.cons (jiX hv) (ih hu)
theorem jhQ {x:Value}{v:V}(h:jfS x=some v):VRel Γ v x:=by
 unfold jfS at h;split at h
 ·simp only[Ks]at h;obtain⟨us,hu,rfl⟩:=h;have:=jlW (Γ:=Γ) hu;exact VRel.mkAgg (by simpa using this)
 ·exact jiX h
theorem jcg {x:V}{y:Value}{top h:Nat}{d:Nat}{code:BoundsCode}(hx:VRel Γ x y)(hb:ja4 (some x) d top=some h) :
  ∀top',top<=top'->(Instr.sliceBound y top' code).run P w=.ok h w:=by
 intro top' ht;cases x<;>simp only[ja4]at hb<;>try (simp at hb;done)
 rename_i k i;obtain rfl:=hx.int_inv;split at hb
 ·rename_i hc;simp at hb;subst hb;have:(0<=i/\i<=(top':Int)):=⟨hc.1,aa⟩;simp[Instr.sliceBound,asIntOf,this]
 ·simp at hb
theorem jbz {isSl:Bool}{lo hi:Option V}{lo' hi':Option Value}{top len cap h l:Nat}(hlo:∀x,lo=some x->∃y,lo'=some y/\VRel Γ x y)(hlon:lo=none->lo'=none)
  (hhi:∀x,hi=some x->∃y,hi'=some y/\VRel Γ x y) (hhin:hi=none->hi'=none) (ht:top<=cap)
  (h1:ja4 hi len top=some h) (h2:ja4 lo 0 h=some l):(Instr.sliceBounds isSl len cap lo' hi' none).run P w=.ok (l,h,cap) w:=by
 cases hi with
 |none =>
  rw[hhin rfl];simp[ja4]at h1;subst h1;cases lo with
  |none=>rw[hlon rfl];simp[ja4]at h2;subst h2;simp[Instr.sliceBounds]
  |some x=>obtain⟨y,rfl,hr⟩:=hlo x rfl;simp[Instr.sliceBounds,jcg hr h2 len (K8 _)]
 |some x =>
  obtain⟨y,rfl,hr⟩:=hhi x rfl;have e1:∀code,(Instr.sliceBound (code:=code) y cap).run P w=.ok h w:=λ_=>jcg hr h1 cap ht
  cases lo with
  |none=>rw[hlon rfl];simp[ja4]at h2;subst h2;simp[Instr.sliceBounds,e1]
  |some x2=>obtain⟨y2,rfl,hr2⟩:=hlo x2 rfl;simp[Instr.sliceBounds,e1,jcg hr2 h2 h (K8 _)]
theorem jhn {isSl:Bool}{lo:Option V}{x m:V}{lo':Option Value}{y n:Value}{top len cap mm h l:Nat}(hlo:∀x,lo=some x->∃y,lo'=some y/\VRel Γ x y)(hlon:lo=none->lo'=none)
  (hx:VRel Γ x y) (hm:VRel Γ m n) (ht:top<=cap) (h0:ja4 (some m) 0 top=some mm)
  (h1:ja4 (some x) 0 mm=some h) (h2:ja4 lo 0 h=some l):(Instr.sliceBounds isSl len cap lo' (some y) (some n)).run P w=.ok (l,h,mm) w:=by
 have e0:∀code,(Instr.sliceBound (code:=code) n cap).run P w=.ok mm w:=λ_=>jcg hm h0 cap ht
 have e1:∀code,(Instr.sliceBound (code:=code) y mm).run P w=.ok h w:=λ_=>jcg hx h1 mm (K8 _)
 cases lo with
 |none=>rw[hlon rfl];simp[ja4]at h2;subst h2;simp[Instr.sliceBounds,e0,e1]
 |some x2=>obtain⟨y2,rfl,hr2⟩:=hlo x2 rfl;simp[Instr.sliceBounds,e0,e1,jcg hr2 h2 h (K8 _)]
theorem jb1 {x:Option V}{d top h:Nat}(hb:ja4 x d top=some h)(hd:d<=top):h<=top:=by
 unfold ja4 at hb;split at hb
 ·simp at hb;omega
 ·split at hb
  ·simp at hb;omega
  ·simp at hb
 ·simp at hb
theorem jez {cells:List V}{a:Addr}(n:Nat)(h:VRel Γ (.rptr cells) (.pointer (some a))):VRel Γ (.rptr (cells.drop n)) (.pointer (some (a.add n))):=by
 cases h with
 | rptr _ _ xs hp hr =>
  refine .rptr _ _ (λi=>xs (n+i)) (λi hi => ?_) (λi hi => ?_)
  ·simp at hi;have:=hp (n+i) aa;exact⟨jfI this.1,by rw[jfH,jha,Vc];exact this.2⟩
  ·simp at hi;have:=hr (n+i) aa;simpa using this
end
section
variable {P:Program}{w:World}{Γ:Ctx}
theorem jfU {cells:List V}{len:Nat}{cap:RCap}{a:Addr}{c:Nat}(h:VRel Γ (.row cells len cap) (.slice (some a) len c))(l n len' c':Nat)(cap':RCap)(a':Addr)
  (ha:∀i,i<((cells.drop l).take n).length->a'=a.add l) (hc:jck Γ cap' a' len' c'):VRel Γ (.row ((cells.drop l).take n) len' cap') (.slice (some a') len' c'):=by
 cases h with
 | row _ _ _ _ _ xs hp hr hcap =>
  refine .row _ _ _ _ _ (λi=>xs (l+i)) (λi hi => ?_) (λi hi => ?_) hc
  ·have ea:=ha i hi;subst ea;simp at hi;have:=hp (l+i) aa;exact⟨jfI this.1,by rw[jfH,jha,Vc];exact this.2⟩
  ·simp at hi;have:=hr (l+i) aa;simpa using this
theorem VRel.row_inv {cells:List V}{len:Nat}{cap:RCap}{x:Value}(h:VRel Γ (.row cells len cap) x):∃a c,x=.slice (some a) len c/\jck Γ cap a len c/\len<=c:=by
 cases h with
 |row _ _ _ a c xs hp hr hc =>
  refine⟨a,c,rfl,hc,?_⟩;cases cap with
  |full=>exact X7 hc.symm
  |unk=>exact hc
  |tok k e s=>obtain⟨b,pos,spare,h1,h2,h3⟩:=hc;omega
theorem jte {cap:RCap}{a:Addr}{len c l s:Nat}(h:jck Γ cap a len c)(hlc:len<=c)(hl:l<=len) :
  jck Γ (jkB s cap) (if c=l then a else a.add (l*s)) (len-l) (c-l):=by
 cases cap with
 |full=>simp only[jck,jkB]at h ⊢;omega
 |unk=>simp only[jck,jkB]at h ⊢;omega
 | tok k e s' =>
  simp only[jkB];split
  ·rename_i hs;subst hs;obtain⟨b,pos,spare,h1,h2,h3⟩:=h;refine⟨b,pos,spare,h1,aa,?_⟩
   rcases h3 with h3|⟨h3,h4⟩
   ·exact .inl h3
   ·by_cases h0:spare=0
    ·exact .inl h0
    ·refine .inr ?_;have hle:l*s'<=len*s':=Ja _ hl;rw[Kh aa,h3,jaU rfl];refine⟨?_,?_⟩
     ·simp only[Addr.mk.injEq,true_and,and_true];rw[Ud];omega
     ·rw[Ud];omega
  ·simp only[jck];omega
theorem jhR {cells:List V}{len:Nat}{a:Addr}{c l s n:Nat}(hlc:len<=c)(hl:l<=len)(hn:n<=(len-l)*s) :
  ∀i,i<((cells.drop (l*s)).take n).length->(if c=l then a else a.add (l*s))=a.add (l*s):=by
 intro i hi;split
 ·rename_i hcl;have h0:len-l=0:=aa;rw[h0]at hn;simp at hi hn;omega
 ·rfl
theorem jlX {t:TypeId}{x:Value}{s:List UInt8}{v:V}{lo hi:Option V}{lo' hi':Option Value}{k:Nat}(hu:P.underlying t=some .string)
  (hx:VRel Γ (.str s) x) (hlo:∀x,lo=some x->∃y,lo'=some y/\VRel Γ x y) (hlon:lo=none->lo'=none)
  (hhi:∀x,hi=some x->∃y,hi'=some y/\VRel Γ x y) (hhin:hi=none->hi'=none) (h:jcV k (.str s) lo hi none=some v) :
  ∃y,(Instr.sliceAt t x lo' hi' none).run P w=.ok y w/\VRel Γ v y:=by
 obtain⟨b,rfl,hb⟩:=hx.str_inv;subst hb;simp only[jcV]at h;split at h
 ·rename_i hh h1;split at h
  ·rename_i l h2;simp at h;subst h;have hsz:b.data.toList.length=b.size:=by rw[Jg];rfl
   rw[hsz]at h1;refine⟨.string (b.extract l hh),?_,VRel.mkStr (by rw[Lib.extract_data])⟩;simp[Instr.sliceAt,Instr.slice,jag hu,jbz (P:=P) (w:=w) (isSl:=false) hlo hlon hhi hhin (K8 _) h1 h2]
  ·simp at h
 ·simp at h
theorem jjM {t e:TypeId}{x:Value}{u v:V}{s:Nat}{lo hi mx:Option V}{lo' hi' mx':Option Value}(hu:P.underlying t=some (.slice e))(hs:(P.info? e).map (·.size)=some s)
  (hx:VRel Γ u x) (hstr:∀b,u ≠ .str b) (hlo:∀x,lo=some x->∃y,lo'=some y/\VRel Γ x y) (hlon:lo=none->lo'=none)
  (hhi:∀x,hi=some x->∃y,hi'=some y/\VRel Γ x y) (hhin:hi=none->hi'=none) (hmx:∀x,mx=some x->∃y,mx'=some y/\VRel Γ x y) (hmxn:mx=none->mx'=none)
  (h:jcV s u lo hi mx=some v):∃y,(Instr.sliceAt t x lo' hi' mx').run P w=.ok y w/\VRel Γ v y:=by
 unfold jcV at h;split at h
 ·exact absurd rfl (hstr _)
 ·-- nil
  cases hx;rw[hmxn rfl];split at h
  ·rename_i hh h1;split at h
   ·rename_i l h2;simp at h;subst h;have e1:hh=0:=by have:=jb1 h1 (K8 _);omega
    subst e1;have e2:l=0:=by have:=jb1 h2 (K8 _);omega
    subst e2;refine⟨.slice none 0 0,?_,.nilsl⟩;simp[Instr.sliceAt,Instr.slice,jag hu,jaN hs,jbz (P:=P) (w:=w) (isSl:=true) (len:=0) (cap:=0) hlo hlon hhi hhin (K8 _) h1 h2]
   ·simp at h
  ·simp at h
 ·-- a row
  rename_i cells len cap;rw[hmxn rfl];obtain⟨a,c,rfl,hcap,hlc⟩:=hx.row_inv;split at h
  ·rename_i hh h1;split at h
   ·rename_i l h2;simp at h;subst h;have b1:=jb1 h1 (K8 _);have b2:=jb1 h2 (Qr _);refine⟨.slice (if c=l then some a else(some a).map (·.add (l*s))) (hh-l) (c-l),?_,?_⟩
    ·simp[Instr.sliceAt,Instr.slice,jag hu,jaN hs,jbz (P:=P) (w:=w) (isSl:=true) (len:=len) (cap:=c) hlo hlon hhi hhin hlc h1 h2]
    ·have e:(if c=l then some a else(some a).map (·.add (l*s)))=some (if c=l then a else a.add (l*s)):=by split<;>rfl
     rw[e];refine jfU hx (l*s) _ _ _ _ _ (jhR hlc aa (Ja _ aa)) ?_;split
     ·rename_i hhl;subst hhl;exact jte hcap hlc b2
     ·simp only[jck];omega
   ·simp at h
  ·simp at h
 ·-- a row with a third index
  rename_i cells len cap m;obtain⟨m',rfl,hm⟩:=hmx _ rfl;obtain⟨a,c,rfl,hcap,hlc⟩:=hx.row_inv;split at h
  ·rename_i mm h0;split at h
   ·rename_i hv;obtain⟨hv',rfl,hhv⟩:=hhi _ rfl;split at h
    ·rename_i hh h1;split at h
     ·rename_i l h2;simp at h;subst h;have b0:=jb1 h0 (Qr _);have b1:=jb1 h1 (Qr _);have b2:=jb1 h2 (Qr _);refine⟨.slice (if mm=l then some a else(some a).map (·.add (l*s))) (hh-l) (mm-l),?_,?_⟩
      ·simp[Instr.sliceAt,Instr.slice,jag hu,jaN hs,jhn (P:=P) (w:=w) (isSl:=true) (len:=len) (cap:=c) hlo hlon hhv hm hlc h0 h1 h2]
      ·have e:(if mm=l then some a else(some a).map (·.add (l*s)))=some (if mm=l then a else a.add (l*s)):=by split<;>rfl
       rw[e];refine jfU hx (l*s) _ _ _ _ _ ?_ ?_
       ·intro i hi;split
        ·rename_i hml;have:hh=l:=aa;subst this;simp at hi
        ·rfl
       ·split
        ·simp only[jck];omega
        ·simp only[jck];omega
     ·simp at h
    ·simp at h
   ·simp at h
  ·simp at h
 ·-- memory of the call's own
  rename_i b off len cap;rw[hmxn rfl];cases hx with
  | hsl _ _ _ _ _ c c' hblk hc =>
   have ec:c'=cap:=hc.2;subst ec;split at h
   ·rename_i hh h1;split at h
    ·rename_i l h2;simp at h;subst h;have b2:=jb1 h2 (Qr _);refine⟨.slice (if c'=l then some ⟨c,off,none⟩else(some ⟨c,off,none⟩:Option Addr).map (·.add (l*s))) (hh-l) (c'-l),?_,?_⟩
     ·simp[Instr.sliceAt,Instr.slice,jag hu,jaN hs,jbz (P:=P) (w:=w) (isSl:=true) (len:=len) (cap:=c') hlo hlon hhi hhin (K8 _) h1 h2]
     ·have e:(if c'=l then some ⟨c,off,none⟩else(some ⟨c,off,none⟩:Option Addr).map (·.add (l*s)))=some ⟨c,if l=c' then off else off+l*s,none⟩:=by
       by_cases hl:c'=l
       ·rw[Kj hl,Kj hl.symm]
       ·rw[Kh hl,Kh (λe=>hl e.symm)];simp[jaU]
      rw[e];exact .hsl _ _ _ _ _ _ _ hblk ⟨K8 _,rfl⟩
    ·simp at h
   ·simp at h
 ·-- memory of the call's own,of which it is not known where it ends
  rename_i b off len cap ex hnx;rw[hmxn rfl];cases hx with
  | hsl _ _ _ _ _ c c' hblk hc =>
   have ec:cap<=c':=hc.1;split at h
   ·rename_i hh h1;split at h
    ·rename_i l h2;split at h
     ·rename_i hl;simp at h;subst h;have b2:=jb1 h2 (Qr _);refine⟨.slice (if c'=l then some ⟨c,off,none⟩else(some ⟨c,off,none⟩:Option Addr).map (·.add (l*s))) (hh-l) (c'-l),?_,?_⟩
      ·simp[Instr.sliceAt,Instr.slice,jag hu,jaN hs,jbz (P:=P) (w:=w) (isSl:=true) (len:=len) (cap:=c') hlo hlon hhi hhin ec h1 h2]
      ·have e:(if c'=l then some ⟨c,off,none⟩else(some ⟨c,off,none⟩:Option Addr).map (·.add (l*s)))=some ⟨c,off+l*s,none⟩:=by
        by_cases hl2:c'=l
        ·have h0:l=0:=by omega
         rw[Kj hl2,h0];simp
        ·rw[Kh hl2];simp[jaU]
       rw[e];refine .hsl _ _ _ _ _ _ _ hblk ⟨aa,?_⟩;cases ex with
       |exact=>exact trivial
       |least=>exact trivial
       | grow s' =>
        simp only[HCap.cut];split
        ·rename_i es;subst es;obtain⟨⟨n2,h2,h2n⟩,h2m⟩:(∃n,Γ.siz c=some n/\off+c'*s'<=n)/\c'<=maxLen:=hc.2
         have h3:off+l*s'+(c'-l)*s'=off+c'*s':=by
          have:l<=c':=aa;rw[Ud];have:=Ja s' this;omega
         simp only[HRel];rw[h3];exact⟨⟨n2,h2,h2n⟩,aa⟩
        ·exact trivial
       | both s' =>
        simp only[HCap.cut];split
        ·rename_i es;subst es;obtain⟨hce,n2,h2,h2n⟩:c'=cap/\∃n,Γ.siz c=some n/\off+c'*s'<=n:=hc.2
         have h3:off+l*s'+(c'-l)*s'=off+c'*s':=by
          have:l<=c':=aa;rw[Ud];have:=Ja s' this;omega
         exact⟨aa,n2,h2,by rw[h3];exact h2n⟩
        ·exact trivial
     ·rename_i hl;simp at h;obtain⟨hhl,rfl⟩:=h;refine⟨.slice (if c'=l then some ⟨c,off,none⟩else(some ⟨c,off,none⟩:Option Addr).map (·.add (l*s))) (hh-l) (c'-l),?_,?_⟩
      ·simp[Instr.sliceAt,Instr.slice,jag hu,jaN hs,jbz (P:=P) (w:=w) (isSl:=true) (len:=len) (cap:=c') hlo hlon hhi hhin ec h1 h2]
      ·have e0:hh-l=0:=by omega
       rw[e0];split
       ·exact .row [] 0 .unk _ _ (λ_=>undef) (λi hi=>by simp at hi) (λi hi=>by simp at hi) (by simp[jck])
       ·exact .row [] 0 .unk _ _ (λ_=>undef) (λi hi=>by simp at hi) (λi hi=>by simp at hi) (by simp[jck])
    ·simp at h
   ·simp at h
 ·simp at h
theorem jlY {t e:TypeId}{n:Nat}{x:Value}{u v:V}{s:Nat}{lo hi mx:Option V}{lo' hi' mx':Option Value}(hu:P.underlying t=some (.array n e))(hs:(P.info? e).map (·.size)=some s)
  (hx:VRel Γ u x) (hlo:∀x,lo=some x->∃y,lo'=some y/\VRel Γ x y) (hlon:lo=none->lo'=none)
  (hhi:∀x,hi=some x->∃y,hi'=some y/\VRel Γ x y) (hhin:hi=none->hi'=none) (hmxn:mx=none->mx'=none)
  (h:jeT n s u lo hi mx=some v):∃y,(Instr.sliceAt t x lo' hi' mx').run P w=.ok y w/\VRel Γ v y:=by
 unfold jeT at h;split at h
 ·rename_i cells;rw[hmxn rfl];split at h
  ·rename_i hh h1;split at h
   ·rename_i l h2;simp at h;subst h;have b1:=jb1 h1 (K8 _);have b2:=jb1 h2 (Qr _);cases hx with
    | rptr _ a xs hp hr =>
     refine⟨.slice (some (if n=l then a else a.add (l*s))) (hh-l) (n-l),?_,?_⟩
     ·simp[Instr.sliceAt,Instr.sureAddr,jag hu,jaN hs,jbz (P:=P) (w:=w) (isSl:=false) (len:=n) (cap:=n) hlo hlon hhi hhin (K8 _) h1 h2]
     ·have hrow:VRel Γ (.row cells n .full) (.slice (some a) n n):=.row cells n .full a n xs hp hr rfl;refine jfU hrow (l*s) _ _ _ _ _ (λi hi => ?_) ?_
      ·have hne:n ≠ l:=by
        intro e;have:hh-l=0:=aa;simp[this]at hi
       rw[Kh hne]
      ·split
       ·rename_i hhl;subst hhl;rfl
       ·show hh-l<=n-l;omega
   ·simp at h
  ·simp at h
 ·rename_i b off;rw[hmxn rfl];split at h
  ·rename_i hh h1;split at h
   ·rename_i l h2;simp at h;subst h;have b1:=jb1 h1 (K8 _);have b2:=jb1 h2 (Qr _);cases hx with
    | ptr _ _ c hc =>
     refine⟨.slice (some (if n=l then⟨c,off,none⟩else(⟨c,off,none⟩:Addr).add (l*s))) (hh-l) (n-l),?_,?_⟩
     ·simp[Instr.sliceAt,Instr.sureAddr,jag hu,jaN hs,jbz (P:=P) (w:=w) (isSl:=false) (len:=n) (cap:=n) hlo hlon hhi hhin (K8 _) h1 h2]
     ·have e:(if n=l then(⟨c,off,none⟩:Addr)else(⟨c,off,none⟩:Addr).add (l*s))=⟨c,if n=l then off else off+l*s,none⟩:=by
       split
       ·rfl
       ·rw[jaU rfl]
      rw[e];exact .hsl b _ _ _ .exact c (n-l) hc ⟨K8 _,rfl⟩
   ·simp at h
  ·simp at h
 ·simp at h
end
section
variable {P:Program}{w:World}{Γ:Ctx}
theorem jkE {cells:List V}{len:Nat}{cap:RCap}{a:Addr}{c:Nat}(h:VRel Γ (.row cells len cap) (.slice (some a) len c))(n:Nat) :
  VRel Γ (.rptr (cells.drop n)) (.pointer (some (a.add n))):=by
 cases h with
 |row _ _ _ _ _ xs hp hr hc=>exact jez n (.rptr _ _ xs hp hr)
theorem jjN {t e:TypeId}{u ui v:V}{x xi:Value}{s:Nat}(hu:P.underlying t=some (.slice e))(hs:(P.info? e).map (·.size)=some s)
  (hx:VRel Γ u x) (hi:VRel Γ ui xi) (h:jaw s u ui=some v):∃y,(Instr.indexAt t x xi).run P w=.ok y w/\VRel Γ v y:=by
 unfold jaw at h;split at h
 ·rename_i cells len cap k i;obtain rfl:=hi.int_inv;obtain⟨a,c,rfl,hcap,hlc⟩:=hx.row_inv;split at h
  ·rename_i hc;simp at h;subst h;refine⟨_,?_,jkE hx _⟩;simp[Instr.indexAt,asIntOf,jag hu,jaN hs,hc]
  ·simp at h
 ·rename_i b off len cap ex k i;obtain rfl:=hi.int_inv;cases hx with
  | hsl _ _ _ _ _ c c' hblk hcc =>
   split at h
   ·rename_i hc;simp at h;subst h;refine⟨_,?_,.ptr _ _ c hblk⟩;simp[Instr.indexAt,asIntOf,jag hu,jaN hs,hc,jaU]
   ·simp at h
 ·simp at h
theorem jlZ {t e:TypeId}{n:Nat}{u ui v:V}{x xi:Value}{s:Nat}(hu:P.underlying t=some (.array n e))(hs:(P.info? e).map (·.size)=some s)
  (hx:VRel Γ u x) (hi:VRel Γ ui xi) (h:jeh n s u ui=some v):∃y,(Instr.indexAt t x xi).run P w=.ok y w/\VRel Γ v y:=by
 unfold jeh at h;split at h
 ·rename_i cells k i;obtain rfl:=hi.int_inv;split at h
  ·rename_i hc;simp at h;subst h;cases hx with
   |rptr _ a xs hp hr =>
    refine⟨_,?_,jez _ (.rptr _ _ xs hp hr)⟩;simp[Instr.indexAt,Instr.sureAddr,asIntOf,jag hu,jaN hs,hc]
  ·simp at h
 ·rename_i b off k i;obtain rfl:=hi.int_inv;split at h
  ·rename_i hc;simp at h;subst h;cases hx with
   |ptr _ _ c hblk =>
    refine⟨_,?_,.ptr _ _ c hblk⟩;simp[Instr.indexAt,Instr.sureAddr,asIntOf,jag hu,jaN hs,hc,jaU]
  ·simp at h
 ·simp at h
theorem jl0 {t:TypeId}{fields:Array Field}{f:Nat}{fd:Field}{u v:V}{x:Value}{s:Nat}(hu:P.underlying t=some (.struct fields))(hf:fields[f]? = some fd)
  (hs:(P.info? fd.type).map (·.size)=some s) (h0:s ≠ 0) (hx:VRel Γ u x) (h:jcO fd.offset u=some v):∃y,(Instr.fieldAt t x f).run P w=.ok y w/\VRel Γ v y:=by
 unfold jcO at h;split at h
 ·simp at h;subst h;cases hx with
  |rptr _ a xs hp hr =>
   refine⟨_,?_,jez _ (.rptr _ _ xs hp hr)⟩;simp[Instr.fieldAt,Instr.sureAddr,fieldPlace,jag hu,jaN hs,hf,h0]
 ·simp at h;subst h;cases hx with
  |ptr _ _ c hblk =>
   refine⟨_,?_,.ptr _ _ c hblk⟩;simp[Instr.fieldAt,Instr.sureAddr,fieldPlace,jag hu,jaN hs,hf,h0,jaU]
 ·simp at h
theorem LRel.sub {vs:List V}{xs:Array Value}(h:LRel Γ vs xs)(l n:Nat):LRel Γ ((vs.drop l).take n) (xs.extract l (l+n)):=by
 have hl:=h.len;refine⟨by simp[hl];omega,λi a b => ?_⟩;simp at a b ⊢;exact h.rel _ _ _
theorem jeA {E:Env}{t:TypeId}{g:Bool}{s:Nat}{cs:List V}{xs:Array Value}{off:Nat}{v:V}(hg:aggT E t=some g)(hs:(E.P.info? t).map (·.size)=some s)
  (hx:LRel Γ cs xs) (h:jgH g s cs off=some v):∃y,(part t xs off).run E.P w=.ok y w/\VRel Γ v y:=by
 unfold jgH at h;cases g with
 |true =>
  simp at h;subst h;refine⟨_,?_,VRel.mkAgg (hx.sub off s)⟩;simp[part,jfm hg,jaN hs]
 |false =>
  simp at h;obtain⟨y,hy,hr⟩:=hx.get? h;exact⟨y,by simp[part,jfm hg,hy],hr⟩
theorem jiL {y:Value}{v:V}{s:Sem Value}(h:s.run P w=.ok y w)(hr:VRel Γ v y):∃y,s.run P w=.ok y w/\VRel Γ v y:=⟨y,h,hr⟩
theorem jps {op:BinOp}{k:IntKind}{a b:Int}{v:V}(t:TypeId)(h:jca op k a b=some v) :
  ∃y,(binOp op t (.int k a) (.int k b)).run P w=.ok y w/\VRel Γ v y:=by
 cases op<;>simp only[jca,Ke,reduceCtorEq]at h
 case quo =>
  split at h
  ·simp at h
  ·rename_i hb;simp at h;subst h;exact jiL (by simp[binOp,Op.intDiv,hb]) (.int _ _)
 case rem =>
  split at h
  ·simp at h
  ·rename_i hb;simp at h;subst h;exact jiL (by simp[binOp,Op.intDiv,hb]) (.int _ _)
 case add=>subst h;exact jiL (by simp[binOp,Op.intArith]) (.int _ _)
 case sub=>subst h;exact jiL (by simp[binOp,Op.intArith]) (.int _ _)
 case mul=>subst h;exact jiL (by simp[binOp,Op.intArith]) (.int _ _)
 case and=>subst h;exact jiL (by simp[binOp,Op.intBits]) (.int _ _)
 case or=>subst h;exact jiL (by simp[binOp,Op.intBits]) (.int _ _)
 case xor=>subst h;exact jiL (by simp[binOp,Op.intBits]) (.int _ _)
 case andNot=>subst h;exact jiL (by simp[binOp,Op.intBits]) (.int _ _)
 all_goals (subst h;exact jiL (by simp[binOp,Op.intCmp]) (.bool _))
theorem jkF {op:BinOp}{k k':IntKind}{a b:Int}{v:V}(h:jkC op k a b=some v) :
  ∃y,(Op.shift op k a k' b).run P w=.ok y w/\VRel Γ v y:=by
 unfold jkC at h;split at h
 ·simp at h
 ·rename_i hb;split at h
  ·simp at h;subst h;exact⟨_,by simp[Op.shift,hb],.int _ _⟩
  ·simp at h;subst h;exact⟨_,by simp[Op.shift,hb],.int _ _⟩
  ·simp at h
theorem jeB(a b:ByteArray):(a++b).data.toList=a.data.toList++b.data.toList:=by
 have:(a++b).data=a.data++b.data:=ae;rw[this];simp
theorem jpt {op:BinOp}{x y:ByteArray}{v:V}(h:jkD op x.data.toList y.data.toList=some v) :
    ∃z,(Op.stringOp op x y).run P w=.ok z w/\VRel Γ v z:=by
  have hx:x.data.toList.length=x.size:=by rw[Jg];rfl
  have hy:y.data.toList.length=y.size:=by rw[Jg];rfl
  cases op <;>simp only[jkD]at h<;>first
    |(simp at h;done)
    |(simp at h;subst h;exact⟨_,by simp[Op.stringOp,Lib.toList_data],.bool _⟩)
    | (split at h
       · rename_i hc
         simp at h;subst h;refine⟨.string (x++y),?_,VRel.mkStr (jeB x y)⟩
         have h2:¬((x.size+y.size:Nat):Int)>IntKind.i64.max:=by
           have e:IntKind.i64.max=9223372036854775807:=af;rw[e];unfold lim at hc;omega
         simp only[Op.stringOp,Kh h2,Sem.run_pure]
       · simp at h)
end
section
variable {P:Program}{w:World}{Γ:Ctx}
theorem jeQ(off:Nat):∀(vs:List Value) (k:Nat) (cells:Array Value),off+k+vs.length<=cells.size ->
  ((vs.zipIdx k).foldl (λcs (x:Value × Nat)=>cs.setIfInBounds (off+x.2) x.1) cells).toList=cells.toList.take (off+k)++vs++cells.toList.drop (off+k+vs.length)
 | [],k,cells,h=>ae
 | v::vs,k,cells,h=>by
  simp only[Qn]at h;simp only[List.zipIdx_cons,Ux];rw[jeQ off vs (k+1) _ (by simp;omega)];have hlt:off+k<cells.toList.length:=by simp;omega
  simp only[Array.toList_setIfInBounds];apply Xv;intro i;simp only[Vs,Kk,Qz,Uy,Jr,X6,J5,Qn];simp only[Jg]at hlt ⊢;rw[Xy aa,Xy aa]
  rcases Up i (off+k)with hi|hi|hi
  ·simp[show i<off+(k+1)from by omega,show i<off+k+(vs.length+1)from by omega,hi,show ¬off+k=i from by omega];intro hcon;omega
  ·subst hi;rw[Kj aa,Kj aa,Kj aa,Kj rfl,Kj aa,Kj aa,Kh aa];simp
  ·by_cases h2:i<off+k+1+vs.length
   ·rw[Kj aa,Kh aa,Kj aa,Kh aa];have e:i-(off+k)=(i-(off+(k+1)))+1:=aa;rw[e];simp
   ·rw[Kh aa,Kh aa,Kh aa]
    congr 1
    omega
theorem jnl {place:Nat->Option (Nat × Nat)}:∀{ps:List (Nat × V)} {qs:List (Nat × Value)} {cells:List V} {cells':Array Value} {out:List V},
  ps.length=qs.length->(∀i (h:i<ps.length) (h2:i<qs.length),ps[i].1=qs[i].1/\VRel Γ ps[i].2 qs[i].2)->LRel Γ cells cells'->jei place cells ps=some out ->
  ∃out',Instr.fill place cells' qs=some out'/\LRel Γ out out':=by
 intro ps
 induction ps with
 |nil =>
  intro qs cells cells' out hl hr hc h;have:qs=[]:=by simpa using hl.symm
  subst this;simp[jei]at h;subst h;exact⟨_,rfl,hc⟩
 | cons p ps ih =>
  intro qs cells cells' out hl hr hc h;cases qs with
  |nil=>simp at hl
  | cons q qs =>
   obtain⟨i,v⟩:=p;obtain⟨j,x⟩:=q;have h0:=hr 0 ae ae;simp only[X5]at h0;obtain⟨rfl,hv⟩:=h0;simp only[jei]at h;simp only[Instr.fill];cases hp:place i with
   |none=>simp[hp]at h
   | some os =>
    obtain⟨off,size⟩:=os;rw[hp]at h;simp only at h;split at h
    ·rename_i hcond;have hcl:=hv.cells;have hln:=hcl.len;have hcn:=hc.len;have hc2:¬(x.cells.size ≠ size ||off+x.cells.size>cells'.size)=true:=by simp;omega
     simp only[Kh hc2];refine ih (by simpa using hl) (λi h1 h2=>hr (i+1) (by simp;omega) (by simp;omega)) ?_ h;have hf:=jeQ off x.cells.toList 0 cells' (by simp;omega)
     have e:x.cells.zipIdx.foldl (λcs (x:Value × Nat)=>cs.setIfInBounds (off+x.2) x.1) cells'=(x.cells.toList.zipIdx.foldl (λcs (x:Value × Nat)=>cs.setIfInBounds (off+x.2) x.1) cells'):=by
      rw[<- Array.foldl_toList];simp
     have hlist:(x.cells.zipIdx.foldl (λcs (x:Value × Nat)=>cs.setIfInBounds (off+x.2) x.1) cells').toList=cells'.toList.take off++x.cells.toList++cells'.toList.drop (off+size):=by
      rw[e,hf];simp;omega
     have hgoal:LRel Γ (cells.take off++v.cells++cells.drop (off+size)) (cells'.toList.take off++x.cells.toList++cells'.toList.drop (off+size)).toArray:=by
      refine LRel.mkList (by simp[hln,hcn]) (λk a b => ?_);simp only[Ve,Kk,Qz,Jg];simp only[Kk,Qz,Jo,Jg]at a b;have m1:min off cells.length=off:=aa;have m2:min off cells'.size=off:=aa;by_cases k1:k<off
      ·rw[dif_pos aa,dif_pos aa,dif_pos aa,dif_pos aa];simpa using hc.rel k aa aa
      ·by_cases k2:k<off+size
       ·rw[dif_pos aa,dif_neg aa,dif_pos aa,dif_neg aa];have:=hcl.rel (k-off) aa aa;simpa[m1,m2]using this
       ·rw[dif_neg aa,dif_neg aa];have:=hc.rel (off+size+(k-(off+size))) aa aa;simpa[m1,m2,hcond.1,<- hln,V7]using this
     rw[<- hlist]at hgoal;simpa using hgoal
    ·simp at h
theorem jeU(E:Env):∀(fields:List Field) (l:List (Nat × Nat)),(fields.mapM λf=>(sz E f.type).map λs=>(f.offset,s))=some l ->
  (fields.mapM λf=>do pure (f.offset,<- sizeOf f.type):Sem (List (Nat × Nat))).run E.P w=.ok l w
 | [],l,h=>by simp at h;subst h;simp
 |f::fs,l,h=>by
  simp only[Xu,Option.bind_eq_bind,Ko,Option.pure_def,Ke,Ks]at h;obtain⟨a,⟨s,hs,rfl⟩,r,hr,rfl⟩:=h;have:=jeU E fs r hr;simp only[Xu,Sem.run_bind,jaN hs,Result.andThen_ok,Sem.run_pure,this]
theorem jpu {E:Env}{t:TypeId}{ps:List (Nat × V)}{qs:Array (Nat × Value)}{z:V}{pl:Nat->Option (Nat × Nat)}{cs:List V}(hl:ps.length=qs.size)
  (hr:∀i (h:i<ps.length) (h2:i<qs.size),ps[i].1=qs[i].1/\VRel Γ ps[i].2 qs[i].2) (hz:ja8 E t=some z) (hp:jey E t=some pl) (h:jei pl z.cells ps=some cs) :
  ∃y,(Instr.build t qs).run E.P w=.ok y w/\VRel Γ (.agg cs) y:=by
 have hz':∃zv,((E.P.info? t).bind (·.zero))=some zv/\VRel Γ z zv:=by
  unfold ja8 at hz;cases h:(E.P.info? t).bind (·.zero)with
  |none=>simp[h]at hz
  |some zv=>rw[h]at hz;exact⟨zv,rfl,jhQ hz⟩
 obtain⟨zv,hzv,hzr⟩:=hz'
 have rz:(zeroValue t).run E.P w=.ok zv w:=by
  cases hi:E.P.info? t with
  |none=>simp[hi]at hzv
  |some i=>rw[hi]at hzv;simp at hzv;simp[zeroValue,typeInfo,hi,hzv]
 have hqs:∀i (h:i<ps.length) (h2:i<qs.toList.length),ps[i].1=qs.toList[i].1/\VRel Γ ps[i].2 qs.toList[i].2:=λi h1 h2=>by simpa using hr i h1 (by simpa using h2)
 obtain⟨out,hout,hrel⟩:=jnl (Γ:=Γ) (by simpa using hl) hqs hzr.cells h;refine⟨.agg out,?_,VRel.mkAgg hrel⟩;unfold jey at hp;cases hu:E.P.underlying t with
 |none=>simp[hu]at hp
 | some d =>
  rw[hu]at hp;cases d<;>simp at hp
  ·rename_i n e;obtain⟨s,hs,rfl⟩:=hp;simp only[Instr.build,Sem.run_bind,rz,Result.andThen_ok,jag hu,jaN hs,hout,Sem.run_pure]
  ·rename_i fields;obtain⟨l,hm,rfl⟩:=hp;have:=jeU (w:=w) E fields.toList l hm;simp only[Instr.build,Sem.run_bind,rz,Result.andThen_ok,jag hu,Array.mapM_eq_mapM_toList,Sem.run_map,this];have e:(λi:Nat=>l.toArray[i]?)=λi:Nat=>l[i]? := by funext i;simp
   simp only[e,hout,Sem.run_pure]
def jkG(Γ:Ctx)(ρ:Operand->Option V)(ρ':Operand->Value):Prop:=∀x v,ρ x=some v->VRel Γ v (ρ' x)
theorem jjO {ρ:Operand->Option V}{ρ':Operand->Value}(hρ:jkG Γ ρ ρ'){x:Option Operand}{o:Option V}(h:optO ρ x=some o) :
  (∀v,o=some v->∃y,x.map ρ'=some y/\VRel Γ v y)/\(o=none->x.map ρ'=none):=by
 cases x with
 |none=>simp[optO]at h;subst h;simp
 |some x =>
  simp only[optO,Ks]at h;obtain⟨v,hv,rfl⟩:=h;exact⟨λu hu=>⟨_,rfl,by cases hu;exact hρ _ _ hv⟩,λe=>by cases e⟩
theorem jkH {ρ:Operand->Option V}{ρ':Operand->Value}(hρ:jkG Γ ρ ρ'):∀{xs:List Operand} {vs:List V},jbK ρ xs=some vs->LRel Γ vs (xs.map ρ').toArray
 | [],vs,h=>by simp[jbK]at h;subst h;exact LRel.nil Γ
 |x::xs,vs,h=>by
  simp only[jbK,Ko,Ks]at h;obtain⟨v,hv,l,hl,rfl⟩:=h;simpa using LRel.cons (hρ _ _ hv) (jkH hρ hl)
theorem jch {ρ:Operand->Option V}{ρ':Operand->Value}(hρ:jkG Γ ρ ρ'){xs:Array Operand}{vs:List V}(h:jbK ρ xs.toList=some vs):LRel Γ vs (xs.map ρ'):=by
 have:=jkH hρ h;have e:(xs.toList.map ρ').toArray=xs.map ρ':=by rw[<- Array.toList_map]
 rw[e]at this;exact this
theorem jgK {ρ:Operand->Option V}{ρ':Operand->Value}(hρ:jkG Γ ρ ρ'):∀{xs:List (Nat × Operand)} {ps:List (Nat × V)},jcs ρ xs=some ps ->
  ps.length=xs.length/\∀i (h:i<ps.length) (h2:i<xs.length),ps[i].1=xs[i].1/\VRel Γ ps[i].2 (ρ' xs[i].2)
 | [],ps,h=>by simp[jcs]at h;subst h;simp
 |(i,x)::xs,ps,h=>by
  simp only[jcs,Ko,Ks]at h;obtain⟨v,hv,l,hl,rfl⟩:=h;obtain⟨h1,h2⟩:=jgK hρ hl;refine⟨by simp[h1],λj a b => ?_⟩;cases j with
  |zero=>exact⟨rfl,hρ _ _ hv⟩
  |succ j=>simpa using h2 j (by simpa using a) (by simpa using b)
theorem jgL(mx:Bool):∀(vs:List V) (xs:List Value) (k:IntKind) (a:Int) (v:V),LRel Γ vs xs.toArray->jdN mx k a vs=some v ->
  ∃y,(xs.foldlM (if mx then Builtin.max2 else Builtin.min2) (.int k a)).run P w=.ok y w/\VRel Γ v y
 | [],xs,k,a,v,hl,h=>by
  have:xs=[]:=by have:=hl.len;simpa using this.symm
  subst this;simp[jdN]at h;subst h;exact⟨_,rfl,.int _ _⟩
 |u::vs,[],k,a,v,hl,h=>by have:=hl.len;simp at this
 |u::vs,x::xs,k,a,v,hl,h=>by
  cases u<;>simp only[jdN,reduceCtorEq]at h;rename_i k' b;have h0:=hl.rel 0 ae ae;simp at h0;obtain rfl:=h0.int_inv;have ht:LRel Γ vs xs.toArray:=LRel.mkList (by have:=hl.len;simpa using this) (λi a b=>by have:=hl.rel (i+1) (by simp;omega) (by simp;omega);simpa only[Xd,Xs]using this);obtain⟨y,hy,hr⟩:=jgL mx vs xs k _ v ht h;refine⟨y,?_,hr⟩;cases mx<;>simp only[List.foldlM_cons,Sem.run_bind,Kr,Kq,Km,Builtin.max2,Builtin.min2,Sem.run_pure,Result.andThen_ok]<;>simpa using hy
end
section
variable {w:World}{Γ:Ctx}
theorem jdz {E:Env}{ρ':Operand->Value}{o:Oper}{s:Sem Value}{v:V}(he:execOp ρ' o=(do pure (.value (<- s))))(h:∃y,s.run E.P w=.ok y w/\VRel Γ v y) :
  ∃y,(execOp ρ' o).run E.P w=.ok (.value y) w/\VRel Γ v y:=by
 obtain⟨y,hy,hr⟩:=h;exact⟨y,by rw[he];simp[hy],hr⟩
theorem jfV {P:Program}{op:BinOp}{t:TypeId}{x y:Operand}{k:IntKind}{n:Int}{b':Value}:(eqGuard op t x y (.int k n) b').run P w=.ok () w:=by
 unfold eqGuard;cases op<;>rfl
theorem jl1 {P:Program}{op:BinOp}{t:TypeId}{x y:Operand}{s:ByteArray}{b':Value}:(eqGuard op t x y (.string s) b').run P w=.ok () w:=by
 unfold eqGuard;cases op<;>rfl
theorem joo {E:Env}{op:BinOp}{t:TypeId}{x y:Operand}{a b v:V}{a' b':Value}(ha:VRel Γ a a')(hb:VRel Γ b b')(h:vBin op a b=some v) :
  ∃z,(do eqGuard op t x y a' b';binOp op t a' b':Sem Value).run E.P w=.ok z w/\VRel Γ v z:=by
 unfold vBin at h;split at h
 ·rename_i k a0 k' b0;obtain rfl:=ha.int_inv;obtain rfl:=hb.int_inv;obtain⟨z,hz,hr⟩:=jkF (P:=E.P) (w:=w) (k':=k') h;exact⟨z,by simp[jfV,binOp,hz],hr⟩
 ·rename_i k a0 k' b0;obtain rfl:=ha.int_inv;obtain rfl:=hb.int_inv;obtain⟨z,hz,hr⟩:=jkF (P:=E.P) (w:=w) (k':=k') h;exact⟨z,by simp[jfV,binOp,hz],hr⟩
 ·split at h
  ·rename_i k a0 k' b0 _ _ hk;subst hk;obtain rfl:=ha.int_inv;obtain rfl:=hb.int_inv;obtain⟨z,hz,hr⟩:=jps (P:=E.P) (w:=w) t h;exact⟨z,by simp[jfV,hz],hr⟩
  ·simp at h
 ·obtain⟨x1,rfl,h1⟩:=ha.str_inv;obtain⟨x2,rfl,h2⟩:=hb.str_inv;subst h1;subst h2;obtain⟨z,hz,hr⟩:=jpt (P:=E.P) (w:=w) h;have:binOp op t (.string x1) (.string x2)=Op.stringOp op x1 x2:=by cases op<;>rfl
  exact⟨z,by simp[jl1,this,hz],hr⟩
 ·simp at h
theorem jjP {P:Program}{op:BinOp}{t:TypeId}{x y:Operand}(h:(jcr x ||jcr y)=true):(eqGuard op t x y .nilIface .nilIface).run P w=.ok () w:=by
 unfold eqGuard;cases op<;>first|rfl|(cases x<;>cases y<;>first|rfl|(simp[jcr]at h;done))
theorem jtf {E:Env}{t:TypeId}{a b:V}{a' b':Value}{c r:Bool}(ha:VRel Γ a a')(hb:VRel Γ b b')(h:vEq (E.P.underlying t) c a b=some r) :
  (Op.equal t a' b').run E.P w=.ok r w:=by
 unfold vEq at h;unfold Op.equal Op.maxDepth;rw[show 10000=9999+1 from rfl];generalize 9999=d
 split at h<;>(try (simp at h;done))<;>rename_i hu<;>(try split at h)<;>(try (simp at h;done))<;>
  (simp only[Ke]at h;subst h;cases ha;cases hb;simp[Op.equalIn,jag hu])
theorem jl2 {E:Env}{op:BinOp}{t:TypeId}{x y:Operand}{a b v:V}{a' b':Value}(ha:VRel Γ a a')(hb:VRel Γ b b')(h:jbP (E.P.underlying t) (jcr x ||jcr y) op a b=some v) :
    ∃z,(do eqGuard op t x y a' b';binOp op t a' b':Sem Value).run E.P w=.ok z w/\VRel Γ v z:=by
  unfold jbP at h;split at h
  · rename_i v0 hv
    simp at h;subst h;exact joo ha hb hv
  · have key:∀r,vEq (E.P.underlying t) (jcr x ||jcr y) a b=some r->(eqGuard op t x y a' b').run E.P w=.ok () w/\(Op.equal t a' b').run E.P w=.ok r w /\
        binOp .eql t a' b'=(do pure (.bool (<- Op.equal t a' b')))/\binOp .neq t a' b'=(do pure (.bool (!(<- Op.equal t a' b')))):=by
      intro r hr;refine⟨?_,jtf ha hb hr,?_,?_⟩
      · unfold vEq at hr
        split at hr<;>(try (simp at hr;done))<;>(try split at hr)<;>(try (simp at hr;done))<;>cases ha<;>cases hb<;>
          first|(rename_i hc;exact jjP hc)|(unfold eqGuard;cases op<;>rfl)
      · unfold vEq at hr
        split at hr<;>(try (simp at hr;done))<;>cases ha<;>cases hb<;>rfl
      · unfold vEq at hr
        split at hr<;>(try (simp at hr;done))<;>cases ha<;>cases hb<;>rfl
    split at h
    · rw[Ks]at h
      obtain⟨r,hr,rfl⟩:=h;obtain⟨h1,h2,h3,_⟩:=key r hr;exact⟨.bool r,by simp[h1,h3,h2],.bool _⟩
    · rw[Ks]at h
      obtain⟨r,hr,rfl⟩:=h;obtain⟨h1,h2,_,h4⟩:=key r hr;exact⟨.bool !r,by simp[h1,h4,h2],.bool _⟩
    · simp at h
def jkI(d:Nat)(xs' ys':Array Value)(f:Field)(_:Option Bool × Unit):Sem (ForInStep (Option Bool × Unit)) :=
 if f.name ≠ "_" then do
  let x <- part f.type xs' f.offset
  let y <- part f.type ys' f.offset
  let b <- Op.equalIn d f.type x y
  if(!b)=true then pure (ForInStep.done (some false,()))
  else pure (ForInStep.yield (none,()))
 else pure (ForInStep.yield (none,()))
theorem jeV {E:Env}{d:Nat}{cmp:TypeId->V->V->Option Bool}(hc:∀t x y x' y' r,VRel Γ x x'->VRel Γ y y'->cmp t x y=some r->(Op.equalIn d t x' y').run E.P w=.ok r w){xs ys:List V}{xs' ys':Array Value}(hx:LRel Γ xs xs')(hy:LRel Γ ys ys') :
  ∀(l:List Field) (r:Bool),jfl E cmp xs ys l=some r ->
   (forIn l ((none:Option Bool),()) (jkI d xs' ys')).run E.P w=.ok (if r then none else some false,()) w
 | [],r,h=>by simp only[jfl,Ke]at h;subst h;simp
 | f::l,r,h=>by
  simp only[jfl]at h;by_cases hn:f.name = "_"
  ·simp only[hn,ne_eq,not_true_eq_false,Kq]at h;have:=jeV hc hx hy l r h;simp only[X8,jkI,hn,ne_eq,not_true_eq_false,Kq,Sem.run_bind,Sem.run_pure,Result.andThen_ok];exact this
  ·simp only[ne_eq,hn,Q9,Km,Ko]at h;obtain⟨s,hs,g,hg,x,h1,y,h2,b,h3,h4⟩:=h;obtain⟨x',p1,r1⟩:=jeA (w:=w) (E:=E) hg hs hx h1;obtain⟨y',p2,r2⟩:=jeA (w:=w) (E:=E) hg hs hy h2;have p3:=hc _ _ _ _ _ _ r1 r2 h3;cases b with
   |false =>
    simp only[Kr,Kq,Ke]at h4;subst h4;simp[X8,jkI,hn,p1,p2,p3]
   |true =>
    simp only[Km]at h4;have:=jeV hc hx hy l r h4;simp only[X8,jkI,hn,ne_eq,Q9,Km,Sem.run_bind,p1,p2,p3,Result.andThen_ok,Q7,Kr,Kq,Sem.run_pure];exact this
def jjQ(d:Nat)(e:TypeId)(n:Nat)(xs' ys':Array Value)(i:Nat)(_:Option Bool × Unit):Sem (ForInStep (Option Bool × Unit)):=do
 let x <- part e xs' (i*n)
 let y <- part e ys' (i*n)
 let b <- Op.equalIn d e x y
 if(!b)=true then pure (ForInStep.done (some false,()))
 else pure (ForInStep.yield (none,()))
theorem jhS {E:Env}{d s:Nat}{e:TypeId}{g:Bool}{cmp:V->V->Option Bool}(hg:aggT E e=some g)(hs:sz E e=some s)(hc:∀x y x' y' r,VRel Γ x x'->VRel Γ y y'->cmp x y=some r->(Op.equalIn d e x' y').run E.P w=.ok r w)
  {xs ys:List V} {xs' ys':Array Value} (hx:LRel Γ xs xs') (hy:LRel Γ ys ys') :
  ∀(l:List Nat) (r:Bool),jhK cmp g s xs ys l=some r ->
   (forIn l ((none:Option Bool),()) (jjQ d e s xs' ys')).run E.P w=.ok (if r then none else some false,()) w
 | [],r,h=>by simp only[jhK,Ke]at h;subst h;simp
 | i::l,r,h=>by
  simp only[jhK,Ko]at h;obtain⟨x,h1,y,h2,b,h3,h4⟩:=h;obtain⟨x',p1,r1⟩:=jeA (w:=w) (E:=E) hg hs hx h1;obtain⟨y',p2,r2⟩:=jeA (w:=w) (E:=E) hg hs hy h2;have p3:=hc _ _ _ _ _ r1 r2 h3;cases b with
  |false =>
   simp only[Kr,Kq,Ke]at h4;subst h4;simp[X8,jjQ,p1,p2,p3]
  |true =>
   simp only[Km]at h4;have:=jhS hg hs hc hx hy l r h4;simp only[X8,jjQ,Sem.run_bind,p1,p2,p3,Result.andThen_ok,Q7,Kr,Kq,Sem.run_pure];exact this
theorem jhT {E:Env}:∀(k d:Nat) (t:TypeId) (x y:V) (x' y':Value) (r:Bool),k<=d->VRel Γ x x'->VRel Γ y y'->eqT E k t x y=some r->(Op.equalIn d t x' y').run E.P w=.ok r w
 |0,d,t,x,y,x',y',r,hd,hx,hy,h=>by simp[eqT]at h
 |k+1,0,t,x,y,x',y',r,hd,hx,hy,h=>aa
 | k+1,d+1,t,x,y,x',y',r,hd,hx,hy,h=>by
  simp only[eqT]at h;split at h
  ·rename_i hu;simp only[Ke]at h;subst h;cases hx;cases hy;simp[Op.equalIn,jag hu]
  ·rename_i hu;split at h
   ·simp only[Ke]at h;subst h;rename_i hk;subst hk;cases hx;cases hy;simp[Op.equalIn,jag hu]
   ·simp at h
  ·rename_i hu;simp only[Ke]at h;subst h;obtain⟨b1,rfl,e1⟩:=hx.str_inv;obtain⟨b2,rfl,e2⟩:=hy.str_inv;subst e1 e2;have hb:(b1==b2)=(b1.data==b2.data):=rfl
   have this:(b1==b2)=(b1.data.toList==b2.data.toList):=by
    rw[hb,Uz];simp only[beq_iff_eq];exact⟨λh=>by rw[h],λh=>Array.toList_inj.1 h⟩
   simp[Op.equalIn,jag hu,this]
  ·rename_i fields xs ys hu;split at h
   ·simp at h
   ·rename_i hst;obtain⟨xs',rfl,lx⟩:=hx.agg_inv;obtain⟨ys',rfl,ly⟩:=hy.agg_inv;have:=jeV (d:=d) (λt x y x' y' r a b c=>jhT k d t x y x' y' r aa a b c) lx ly fields.toList r h;rw[Array.forIn_toList]at this;simp only[Op.equalIn,Sem.run_bind,jag hu,Result.andThen_ok];have hp:(program:Sem Program).run E.P w=.ok E.P w:=rfl;rw[hp,Result.andThen_ok,Kh hst,Sem.run_bind];show((forIn fields ((none:Option Bool),()) (jkI d xs' ys')).run E.P w).andThen _=_;rw[this];cases r<;>rfl
  ·rename_i len e xs ys hu;simp only[Ko]at h;obtain⟨s,hs,g,hg,h⟩:=h;obtain⟨xs',rfl,lx⟩:=hx.agg_inv;obtain⟨ys',rfl,ly⟩:=hy.agg_inv;have:=jhS (d:=d) hg hs (λx y x' y' r a b c=>jhT k d e x y x' y' r aa a b c) lx ly (List.range len) r h;simp only[Op.equalIn,Sem.run_bind,jag hu,Result.andThen_ok,jaN hs];simp only[Std.Legacy.Range.forIn_eq_forIn_range',Std.Legacy.Range.size,Nat.sub_zero,Nat.add_one_sub_one,Nat.div_one];rw[<- U4];show((forIn (List.range len) ((none:Option Bool),()) (jjQ d e s xs' ys')).run E.P w).andThen _=_;rw[this];cases r<;>rfl
  ·simp at h
theorem jhU {E:Env}{t:TypeId}{a o b o':Nat}{a' b':Value}(ha:VRel Γ (.ptr a o) a')(hb:VRel Γ (.ptr b o') b')(h:jjL E t a o b o'=true):(Op.equal t a' b').run E.P w=.ok true w:=by
 unfold jjL at h;split at h
 ·rename_i e hu;simp only[Qo,Jc]at h;obtain⟨⟨rfl,rfl⟩,hs⟩:=h;obtain⟨s,hs⟩:=Option.isSome_iff_exists.1 hs;cases ha with
  | ptr _ _ c1 h1 =>
   cases hb with
   |ptr _ _ c2 h2 =>
    rw[h1]at h2;simp only[Ke]at h2;subst h2;unfold Op.equal Op.maxDepth;rw[show 10000=9999+1 from rfl];generalize 9999=d;simp[Op.equalIn,jag hu,samePointer,sameAddr,jaN hs]
 ·simp at h
theorem jgb {E:Env}{t tx:TypeId}(h:jhs E t tx=true):∃ms q,E.P.underlying t=some (.interface ms)/\E.P.underlying tx=some (.int q)/\(E.P.info? tx).map (·.comparable)=some true:=by
 unfold jhs at h;split at h
 ·rename_i h1 h2 h3;exact⟨_,_,h1,h2,h3⟩
 ·simp at h
theorem jop {E:Env}{op:BinOp}{t:TypeId}{x y:Operand}{a b v:V}{a' b':Value}(ha:VRel Γ a a')(hb:VRel Γ b b')(h:jpm E t op a b=some v) :
  ∃z,(do eqGuard op t x y a' b';binOp op t a' b':Sem Value).run E.P w=.ok z w/\VRel Γ v z:=by
 unfold jpm at h;split at h
 ·rename_i xs ys;split at h
  ·simp at h
  ·rename_i hg;rw[Ks]at h;obtain⟨r,hr,rfl⟩:=h;have h1:(Op.equal t a' b').run E.P w=.ok r w:=jhT 8 Op.maxDepth t _ _ _ _ r (by unfold Op.maxDepth;omega) ha hb hr;obtain⟨xs',rfl,lx⟩:=ha.agg_inv;obtain⟨ys',rfl,ly⟩:=hb.agg_inv;have hp:(program:Sem Program).run E.P w=.ok E.P w:=rfl;refine⟨.bool r,?_,.bool _⟩;simp[eqGuard,hp,hg,binOp,h1]
 ·rename_i xs ys;split at h
  ·simp at h
  ·rename_i hg;rw[Ks]at h;obtain⟨r,hr,rfl⟩:=h;have h1:(Op.equal t a' b').run E.P w=.ok r w:=jhT 8 Op.maxDepth t _ _ _ _ r (by unfold Op.maxDepth;omega) ha hb hr;obtain⟨xs',rfl,lx⟩:=ha.agg_inv;obtain⟨ys',rfl,ly⟩:=hb.agg_inv;have hp:(program:Sem Program).run E.P w=.ok E.P w:=rfl;refine⟨.bool !r,?_,.bool _⟩;simp[eqGuard,hp,hg,binOp,h1]
 ·rename_i x1 o x2 o';split at h
  ·rename_i hs;simp only[Ke]at h;subst h;have h1:=jhU (w:=w) ha hb hs;refine⟨.bool true,?_,.bool _⟩;cases ha;cases hb;simp[eqGuard,binOp,h1]
  ·simp at h
 ·rename_i x1 o x2 o';split at h
  ·rename_i hs;simp only[Ke]at h;subst h;have h1:=jhU (w:=w) ha hb hs;refine⟨.bool false,?_,.bool _⟩;cases ha;cases hb;simp[eqGuard,binOp,h1]
  ·simp at h
 ·rename_i tx k a ty k' b;split at h
  ·rename_i hc;obtain⟨rfl,rfl,hi⟩:=hc;simp only[Ke]at h;subst h;cases ha with|iface _ _ x1 h1 => ?_
   cases hb with|iface _ _ x2 h2 => ?_
   cases h1;cases h2;obtain⟨ms,q,h3,h4,h5⟩:=jgb hi;refine⟨_,?_,.bool _⟩;rw[Sem.run_bind];simp only[eqGuard];exact Go.Lib.run_eql_iface_int w _ _ h3 h5 h4
  ·simp at h
 ·rename_i tx k a ty k' b;split at h
  ·rename_i hc;obtain⟨rfl,rfl,hi⟩:=hc;simp only[Ke]at h;subst h;cases ha with|iface _ _ x1 h1 => ?_
   cases hb with|iface _ _ x2 h2 => ?_
   cases h1;cases h2;obtain⟨ms,q,h3,h4,h5⟩:=jgb hi;refine⟨_,?_,.bool _⟩;rw[Sem.run_bind];simp only[eqGuard];exact Go.Lib.run_neq_iface_int w _ _ h3 h5 h4
  ·simp at h
 ·simp at h
theorem jl3 {E:Env}{op:BinOp}{t:TypeId}{x y:Operand}{a b v:V}{a' b':Value}(ha:VRel Γ a a')(hb:VRel Γ b b')(h:jgI E t (jcr x ||jcr y) op a b=some v) :
  ∃z,(do eqGuard op t x y a' b';binOp op t a' b':Sem Value).run E.P w=.ok z w/\VRel Γ v z:=by
 unfold jgI at h;split at h
 ·rename_i v0 hv;simp at h;subst h;exact jl2 ha hb hv
 ·exact jop ha hb h
theorem jrH {P:Program}{t:TypeId}{v r:V}{x:Value}(hx:VRel Γ v x)(h:ja9 (P.underlying t) v=some r)(ats:Array TypeId)(ha:ats[0]? = some t)(ty:TypeId):∃y,(Builtin.len_ ats ty #[x]).run P w=.ok y w/\VRel Γ r y:=by
 unfold ja9 at h;split at h<;>(try (simp at h;done))
 ·rename_i b hu;simp at h;subst h;obtain⟨x1,rfl,h1⟩:=hx.str_inv;refine⟨.int .i64 x1.size,by simp[Builtin.len_,ha,jag hu,goInt],?_⟩;have:b.length=x1.size:=by rw[<- h1,Jg];rfl
  rw[this];exact .int _ _
 ·rename_i hu;simp at h;subst h;obtain⟨a,c,rfl,_⟩:=hx.row_inv;exact⟨_,by simp[Builtin.len_,ha,jag hu,goInt],.int _ _⟩
 ·rename_i hu;simp at h;subst h;cases hx;exact⟨_,by simp[Builtin.len_,ha,jag hu,goInt],.int _ _⟩
 ·rename_i hu;simp at h;subst h;cases hx;exact⟨_,by simp[Builtin.len_,ha,jag hu,goInt],.int _ _⟩
 ·rename_i hu;simp at h;subst h;exact⟨_,by simp[Builtin.len_,ha,jag hu,goInt],.int _ _⟩
theorem jrI {P:Program}{t:TypeId}{v r:V}{x:Value}(hx:VRel Γ v x)(h:jon (P.underlying t) v=some r)(ats:Array TypeId)(ha:ats[0]? = some t)(ty:TypeId):∃y,(Builtin.cap_ ats ty #[x]).run P w=.ok y w/\VRel Γ r y:=by
 unfold jon at h;split at h<;>(try (simp at h;done))
 ·rename_i hu;simp at h;subst h;cases hx;exact⟨_,by simp[Builtin.cap_,ha,jag hu,goInt],.int _ _⟩
 ·rename_i hu;simp at h;subst h;obtain⟨a,c,rfl,hc,_⟩:=hx.row_inv;simp only[jck]at hc;subst hc;exact⟨_,by simp[Builtin.cap_,ha,jag hu,goInt],.int _ _⟩
 ·rename_i hu;simp at h;subst h;cases hx with
  |hsl _ _ _ _ _ c c' hb hc =>
   have e:=hc.2;subst e;exact⟨_,by simp[Builtin.cap_,ha,jag hu,goInt],.int _ _⟩
 ·rename_i hu;simp at h;subst h;cases hx with
  |hsl _ _ _ _ _ c c' hb hc =>
   have e:=hc.2.1;subst e;exact⟨_,by simp[Builtin.cap_,ha,jag hu,goInt],.int _ _⟩
theorem jkJ {n:Int}(h1:0<=n)(h2:n<128):(Utf8.encode n).data.toList=[UInt8.ofNat n.toNat]:=by
 have hv:Utf8.valid n=true:=by unfold Utf8.valid;simp;omega
 unfold Utf8.encode;simp only[hv,Km];rw[Kj aa]
theorem jl4 {E:Env}{w:World}{t:TypeId}{v:V}{x':Value}{name:String}{p:FuncId × V}(h:jfT E (.iface t v) name=some p) :
  ∀n,(nilAhead (n+Made.depth) t x' name).run E.P w=.ok (some false) w:=by
 unfold jfT at h;simp only[Ko]at h;obtain⟨m,⟨i,hi,hf⟩,h⟩:=h;split at h
 ·rename_i hp;have hp2:m.path.toList=[]:=by simpa using hp
  have hti:(typeInfo t).run E.P w=.ok i w:=by simp[typeInfo,hi]
  intro n;have hd:∃k,n+Made.depth=k+1:=⟨n+Made.depth-1,by unfold Made.depth;omega⟩;obtain⟨k,hk⟩:=hd;rw[hk];split at h
  ·rename_i g e hm hu;simp[nilAhead,hti,hf,hp2,followBlind,hm]
  ·simp at h
  ·rename_i g d hd hm hu;simp only[nilAhead,Sem.run_bind,hti,Result.andThen_ok,hf,hp2,followBlind,Sem.run_pure,hm,jag hu];cases d<;>first|exact absurd rfl (hd _)|rfl
  ·simp at h
 ·simp at h
theorem jl5 {E:Env}{ρ:Operand->Option V}{ρ':Operand->Value}(hρ:jkG Γ ρ ρ')(o:Oper){v:V}(h:jba E ρ o.op=some v) :
  ∃y,(execOp ρ' o).run E.P w=.ok (.value y) w/\VRel Γ v y:=by
 obtain⟨dst,op,type,pos,after,guard⟩:=o;simp only at h;cases op<;>simp only[jba,Ko,Ks,reduceCtorEq]at h
 case move x=>exact⟨_,rfl,hρ _ _ h⟩
 case assign x=>exact⟨_,rfl,hρ _ _ h⟩
 case pick c a b =>
  obtain⟨cv,hc,h⟩:=h;cases cv<;>simp only[reduceCtorEq,Ko]at h;rename_i t;obtain⟨x,hx,y,hy,h⟩:=h;simp at h;subst h;have:=(hρ _ _ hc).bool_inv;refine⟨if t then ρ' a else ρ' b,by simp[execOp,this,asBool],?_⟩;cases t
  ·exact hρ _ _ hy
  ·exact hρ _ _ hx
 case build t parts =>
  obtain⟨ps,hp,z,hz,pl,hpl,cs,hf,rfl⟩:=h;obtain⟨h1,h2⟩:=jgK hρ hp;refine jdz rfl (jpu (by simpa using h1) (λi a b => ?_) hz hpl hf);have:=h2 i a (by simpa using b);simpa using this
 case binOp op t x y yt =>
  obtain⟨a,ha,b,hb,h⟩:=h;exact jdz rfl (jl3 (hρ _ _ ha) (hρ _ _ hb) h)
 case unOp op t x =>
  obtain⟨a,ha,h⟩:=h;have hr:=hρ _ _ ha;refine jdz rfl ?_;unfold vUn at h;split at h
  ·simp at h;subst h;rw[hr.bool_inv];exact⟨_,by simp[Op.unary],.bool _⟩
  ·simp at h;subst h;rw[hr.int_inv];exact⟨_,by simp[Op.unary,Op.intArith],.int _ _⟩
  ·simp at h;subst h;rw[hr.int_inv];exact⟨_,by simp[Op.unary,Op.intBits],.int _ _⟩
  ·simp at h
 case convert src dst x =>
  obtain⟨a,ha,h⟩:=h;have hr:=hρ _ _ ha;refine jdz rfl ?_;split at h
  ·rename_i d1 k k' n h1 h2;simp at h;subst h;rw[hr.int_inv];exact⟨_,by simp[convert,jag h1,jag h2,Conv.intToInt],.int _ _⟩
  ·rename_i d1 s h1 h2;simp at h;subst h;obtain⟨x1,hx,hs⟩:=hr.str_inv;rw[hx];refine⟨.string x1,?_,VRel.mkStr hs⟩;cases d1<;>simp[convert,jag h1,jag h2]
  ·rename_i d1 k n h1 h2;split at h
   ·rename_i hn;simp at h;subst h;rw[hr.int_inv];refine⟨.string (Utf8.encode n),?_,VRel.mkStr (jkJ hn.1 hn.2)⟩;cases d1<;>simp[convert,jag h1,jag h2,Conv.intToString]
   ·simp at h
  ·simp at h
 case makeInterface t x =>
  obtain⟨a,ha,h⟩:=h;refine jdz rfl ?_;split at h
  ·simp at h
  ·rename_i d hd hu;simp at h;subst h;refine⟨.iface t (ρ' x),?_,.iface _ _ _ (hρ _ _ ha)⟩;cases d<;>first|(exact absurd rfl (hd _))|simp[Instr.makeInterface,jag hu]
  ·simp at h
 case makeFunc fn first captured =>
  cases fn<;>simp only[Ko,Ks,reduceCtorEq]at h
  ·obtain⟨a,ha,c,hc,rfl⟩:=h;have h1:=jch hρ ha;have h2:=jch hρ hc;exact jdz rfl ⟨_,rfl,.func _ _ _ _ _ h1.len h1.rel h2.len h2.rel⟩
  ·split at h
   ·rename_i x e1 e2;simp only[Ks]at h;obtain⟨a,ha,rfl⟩:=h;have e3:first = #[x]:=by apply Array.ext';simpa using e1
    have e4:captured = #[]:=by apply Array.ext';simpa using e2
    subst e3;subst e4;exact jdz rfl ⟨_,rfl,by simpa using VRel.meth _ _ _ (hρ _ _ ha)⟩
   ·simp at h
 case slice t x lo hi mx =>
  obtain⟨a,ha,l,hl,hh,hhi,m,hm,h⟩:=h;obtain⟨l1,l2⟩:=jjO hρ hl;obtain⟨h1,h2⟩:=jjO hρ hhi;obtain⟨m1,m2⟩:=jjO hρ hm;refine jdz rfl ?_;split at h
  ·rename_i hu;cases a<;>simp only[reduceCtorEq]at h;cases m with
   |none=>rw[m2 rfl];exact jlX hu (hρ _ _ ha) l1 l2 h1 h2 (k:=0) h
   |some m=>simp[jcV]at h
  ·rename_i e hu;simp only[Ko]at h;obtain⟨s,hs,h⟩:=h;have hstr:∀b,a ≠ .str b:=by intro b e;subst e;simp at h
   have h':jcV s a l hh m=some v:=by cases a<;>first|exact h|simp at h
   exact jjM hu hs (hρ _ _ ha) hstr l1 l2 h1 h2 m1 m2 h'
  ·rename_i n e hu;simp only[Ko]at h;obtain⟨s,hs,h⟩:=h;exact jlY hu hs (hρ _ _ ha) l1 l2 h1 h2 m2 h
  ·simp at h
 case nilCheck x =>
  obtain⟨a,ha,h⟩:=h;have hr:=hρ _ _ ha;cases a<;>simp only[reduceCtorEq,Ke]at h
  ·subst h;refine⟨ρ' x,?_,hr⟩;cases hx:ρ' x<;>rw[hx]at hr<;>cases hr;simp[execOp,hx]
  ·subst h;refine⟨ρ' x,?_,hr⟩;cases hx:ρ' x<;>rw[hx]at hr<;>cases hr;simp[execOp,hx]
  ·rename_i name r;simp only[Ks]at h;obtain⟨p,hp,rfl⟩:=h;refine⟨ρ' x,?_,hr⟩;cases hx:ρ' x<;>rw[hx]at hr<;>cases hr;rename_i x' hr';cases r<;>first|(simp[jfT]at hp;done)|skip
   cases hr';have hpr:(program).run E.P w=.ok E.P w:=rfl;simp[execOp,hx,hpr,jl4 hp]
 case fieldAddr t x f =>
  obtain⟨a,ha,h⟩:=h;refine jdz rfl ?_;split at h
  ·rename_i fields hu;simp only[Ko]at h;obtain⟨fd,hf,s,hs,h⟩:=h;split at h
   ·simp at h
   ·exact jl0 hu hf hs ‹_› (hρ _ _ ha) h
  ·simp at h
 case field t x f =>
  obtain⟨a,ha,h⟩:=h;refine jdz rfl ?_;split at h
  ·rename_i fields cs hu;simp only[Ko]at h;obtain⟨fd,hf,s,hs,g,hg,h⟩:=h;obtain⟨xs,hx,hl⟩:=(hρ _ _ ha).agg_inv;obtain⟨y,hy,hr⟩:=jeA (w:=w) hg hs hl h;exact⟨y,by simp[Instr.field,jag hu,hf,hx,asAgg,hy],hr⟩
  ·simp at h
 case indexAddr t x ix =>
  obtain⟨a,ha,i,hi,h⟩:=h;refine jdz rfl ?_;split at h
  ·rename_i e hu;simp only[Ko]at h;obtain⟨s,hs,h⟩:=h;exact jjN hu hs (hρ _ _ ha) (hρ _ _ hi) h
  ·rename_i n e hu;simp only[Ko]at h;obtain⟨s,hs,h⟩:=h;exact jlZ hu hs (hρ _ _ ha) (hρ _ _ hi) h
  ·simp at h
 case index t x ix =>
  obtain⟨a,ha,i,hi,h⟩:=h;refine jdz rfl ?_;split at h
  ·rename_i s k n hu;obtain⟨x1,hx,hs⟩:=(hρ _ _ ha).str_inv;have hin:=(hρ _ _ hi).int_inv;split at h
   ·rename_i hc;simp at h;subst h;subst hs;have hlt:n.toNat<x1.size:=by have:=hc.2;rw[Jg]at this;show n.toNat<x1.data.size;omega
    have hlt2:n.toNat<x1.data.size:=hlt
    have hg:x1[n.toNat]? = some (x1.data.toList.getD n.toNat 0):=by
     have e1:x1[n.toNat]? = some x1[n.toNat]:=by simp[hlt]
     have e2:x1[n.toNat]=x1.data[n.toNat]:=rfl
     have e3:x1.data.toList.getD n.toNat 0=x1.data[n.toNat]:=by
      rw[List.getD_eq_getElem?_getD,Xp,Xc hlt2];rfl
     rw[e1,e2,e3]
    exact⟨.int .u8 (x1.data.toList.getD n.toNat 0).toNat,by simp only[Instr.index,hin,hx,asIntOf,jag hu,hc.1,hg,Sem.run_bind,Sem.run_pure,Result.andThen_ok,Km],.int _ _⟩
   ·simp at h
  ·rename_i len e cs k n hu;obtain⟨xs,hx,hl⟩:=(hρ _ _ ha).agg_inv;have hin:=(hρ _ _ hi).int_inv;split at h
   ·rename_i hc;simp only[Ko]at h;obtain⟨s,hs,g,hg,h⟩:=h;obtain⟨y,hy,hr⟩:=jeA (w:=w) hg hs hl h;exact⟨y,by simp[Instr.index,hin,hx,asIntOf,jag hu,hc,jaN hs,hy],hr⟩
   ·simp at h
  ·simp at h
 case extract x i =>
  obtain⟨a,ha,h⟩:=h;refine jdz rfl ?_;cases a<;>simp only[reduceCtorEq]at h;obtain⟨xs,hx,hl⟩:=(hρ _ _ ha).tup_inv;obtain⟨y,hy,hr⟩:=hl.get? h;exact⟨y,by simp[Instr.extract,hx,hy],hr⟩
 case call c =>
  obtain⟨callee,args,argTypes⟩:=c;cases callee<;>simp only[reduceCtorEq]at h;rename_i b;cases b<;>simp only[reduceCtorEq,Ko]at h
  case len =>
   obtain⟨vs,hv,h⟩:=h;have hl:=jch hρ hv
   match vs,h with
   | [v0],h =>
    simp only[Ko]at h;obtain⟨t,ht,h⟩:=h;have hsz:(args.map ρ').size=1:=by have:=hl.len;simpa using this.symm
    have he:args.map ρ' = #[(args.map ρ')[0]]:=by
     apply Array.ext (by simpa using hsz);intro i a b;have:i=0:=by simp at b;omega
     subst this;rfl
    have h0:=hl.rel 0 ae aa;obtain⟨y,hy,hr⟩:=jrH (w:=w) h0 h argTypes ht type;refine⟨y,?_,hr⟩;have he2:args.map ρ' = #[(args.map ρ')[0]]:=he;simp only[execOp,resolve,invoke,builtin,Sem.run_bind,Sem.run_pure,Result.andThen_ok];rw[he2,hy];rfl
  case cap =>
   obtain⟨vs,hv,h⟩:=h;have hl:=jch hρ hv
   match vs,h with
   | [v0],h =>
    simp only[Ko]at h;obtain⟨t,ht,h⟩:=h;have hsz:(args.map ρ').size=1:=by have:=hl.len;simpa using this.symm
    have he:args.map ρ' = #[(args.map ρ')[0]]:=by
     apply Array.ext (by simpa using hsz);intro i a b;have:i=0:=by simp at b;omega
     subst this;rfl
    have h0:=hl.rel 0 ae aa;obtain⟨y,hy,hr⟩:=jrI (w:=w) h0 h argTypes ht type;refine⟨y,?_,hr⟩;have he2:args.map ρ' = #[(args.map ρ')[0]]:=he;simp only[execOp,resolve,invoke,builtin,Sem.run_bind,Sem.run_pure,Result.andThen_ok];rw[he2,hy];rfl
  case max =>
   obtain⟨vs,hv,h⟩:=h;have hl:=jch hρ hv;cases vs with
   |nil=>simp[jdr]at h
   | cons u us =>
    cases u<;>simp only[jdr,reduceCtorEq]at h;rename_i k a;cases hxs:(args.map ρ').toList with
    |nil=>have:=hl.len;rw[<- Jg,hxs]at this;simp at this
    |cons x xs =>
     have hl2:LRel Γ (V.int k a::us) (x::xs).toArray:=by rw[<- hxs,Ub];exact hl
     have h0:=hl2.rel 0 ae ae;simp at h0;obtain rfl:=h0.int_inv;have ht:LRel Γ us xs.toArray:=LRel.mkList (by have:=hl2.len;simpa using this) (λi a b=>by have:=hl2.rel (i+1) (by simp;omega) (by simp;omega);simpa only[Xd,Xs]using this);obtain⟨y,hy,hr⟩:=jgL (P:=E.P) (w:=w) true us xs k a v ht h;refine⟨y,?_,hr⟩;simp only[Km]at hy;simp only[execOp,resolve,invoke,builtin,Builtin.max_,hxs,Sem.run_bind,Sem.run_pure,Result.andThen_ok,hy]
  case min =>
   obtain⟨vs,hv,h⟩:=h;have hl:=jch hρ hv;cases vs with
   |nil=>simp[jdr]at h
   | cons u us =>
    cases u<;>simp only[jdr,reduceCtorEq]at h;rename_i k a;cases hxs:(args.map ρ').toList with
    |nil=>have:=hl.len;rw[<- Jg,hxs]at this;simp at this
    |cons x xs =>
     have hl2:LRel Γ (V.int k a::us) (x::xs).toArray:=by rw[<- hxs,Ub];exact hl
     have h0:=hl2.rel 0 ae ae;simp at h0;obtain rfl:=h0.int_inv;have ht:LRel Γ us xs.toArray:=LRel.mkList (by have:=hl2.len;simpa using this) (λi a b=>by have:=hl2.rel (i+1) (by simp;omega) (by simp;omega);simpa only[Xd,Xs]using this);obtain⟨y,hy,hr⟩:=jgL (P:=E.P) (w:=w) false us xs k a v ht h;refine⟨y,?_,hr⟩;simp only[Kr,Kq]at hy;simp only[execOp,resolve,invoke,builtin,Builtin.min_,hxs,Sem.run_bind,Sem.run_pure,Result.andThen_ok,hy]
end
def jht(E:Env)(t:TypeId):Bool :=
 match E.P.underlying t with
 |some .bool=>true
 |some (.int _)=>true
 |some .string=>true
 |_=>false
section
variable {Γ:Ctx}{w:World}{E:Env}
def ERel(Γ:Ctx)(es:List (V × V × Nat))(xs:List MapEntry):Prop :=
 es.length=xs.length/\∀i (h:i<es.length) (h2:i<xs.length),VRel Γ es[i].1 xs[i].key/\VRel Γ es[i].2.1 xs[i].val/\es[i].2.2=xs[i].born
theorem ERel.cons {e:V × V × Nat}{es:List (V × V × Nat)}{x:MapEntry}{xs:List MapEntry}(h:ERel Γ (e::es) (x::xs)):VRel Γ e.1 x.key/\VRel Γ e.2.1 x.val/\e.2.2=x.born/\ERel Γ es xs:=by
 have h0:=h.2 0 ae ae;refine⟨h0.1,h0.2.1,h0.2.2,by have:=h.1;simpa using this,λi a b => ?_⟩;have:=h.2 (i+1) (by simp;omega) (by simp;omega);simpa using this
theorem jfJ {kt:TypeId}{k:V}{k':Value}(hk:VRel Γ k k'):∀(es:List (V × V × Nat)) (xs:List MapEntry) (i:Nat) (r:Option Nat),ERel Γ es xs->jdh E kt k es i=some r ->
  ∃r',(Instr.findAsking kt k' xs i).run E.P w=.ok r' w/\(r=none->r'=none)/\∀j,r=some j->i<=j/\j<i+es.length/\∃e x,es[j-i]? = some e/\xs[j-i]? = some x/\r'=some (j,x.val)
 | [],[],i,r,hr,h=>by
  simp only[jdh,Ke]at h;subst h;exact⟨none,by simp[Instr.findAsking],λ_=>rfl,λj h=>by cases h⟩
 | [],_::_,i,r,hr,h=>by have:=hr.1;simp at this
 |_::_,[],i,r,hr,h=>by have:=hr.1;simp at this
 | e::es,x::xs,i,r,hr,h=>by
  obtain⟨h1,h2,h3,h4⟩:=hr.cons;simp only[jdh,Ko]at h;obtain⟨b,hb,h⟩:=h;have he:(Op.equal kt k' x.key).run E.P w=.ok b w:=jhT 8 Op.maxDepth kt _ _ _ _ b (by unfold Op.maxDepth;omega) hk h1 hb;cases b with
  |true =>
   simp only[Km,Ke]at h;subst h;refine⟨some (i,x.val),by simp[Instr.findAsking,he],λh=>(by cases h),λj hj => ?_⟩;cases hj;exact⟨K8 _,ae,e,x,ae,ae,rfl⟩
  |false =>
   simp only[Kr,Kq]at h;obtain⟨r',q1,q2,q3⟩:=jfJ hk es xs (i+1) r h4 h;refine⟨r',by simp[Instr.findAsking,he,q1],q2,λj hj => ?_⟩;obtain⟨c1,c2,e',x',c3,c4,c5⟩:=q3 j hj;refine⟨aa,by simp;omega,e',x',?_,?_,c5⟩
   ·rw[show j-i=(j-(i+1))+1 by omega,Q8];exact c3
   ·rw[show j-i=(j-(i+1))+1 by omega,Q8];exact c4
theorem jpv(b1 b2:ByteArray):(b1==b2)=(b1.data.toList==b2.data.toList):=by
 have hb:(b1==b2)=(b1.data==b2.data):=rfl;rw[hb,Uz];simp only[beq_iff_eq];exact⟨λh=>by rw[h],λh=>Array.toList_inj.1 h⟩
theorem jpw:∀(d n:Nat) (a b:V) (a' b':Value),d<=n->VRel Γ a a'->VRel Γ b b'->jhL d a b=true->Instr.sameBits n a' b'=true:=by
 intro d
 induction d with
 | zero =>
  intro n a b a' b' hd ha hb h;cases a<;>cases b<;>simp only[jhL,Kr]at h
  ·obtain rfl:=ha.bool_inv;obtain rfl:=hb.bool_inv;cases n<;>simpa[Instr.sameBits]using h
  ·obtain rfl:=ha.int_inv;obtain rfl:=hb.int_inv;cases n<;>simpa[Instr.sameBits]using h
  ·obtain⟨x,rfl,e1⟩:=ha.str_inv;obtain⟨y,rfl,e2⟩:=hb.str_inv;subst e1 e2;cases n<;>(simp only[Instr.sameBits,jpv];exact h)
 | succ d ih =>
  intro n a b a' b' hd ha hb h;obtain⟨n,rfl⟩:∃m,n=m+1:=⟨n-1,aa⟩;cases a<;>cases b<;>simp only[jhL,Kr]at h
  ·obtain rfl:=ha.bool_inv;obtain rfl:=hb.bool_inv;simpa[Instr.sameBits]using h
  ·obtain rfl:=ha.int_inv;obtain rfl:=hb.int_inv;simpa[Instr.sameBits]using h
  ·obtain⟨x,rfl,e1⟩:=ha.str_inv;obtain⟨y,rfl,e2⟩:=hb.str_inv;subst e1 e2;simp only[Instr.sameBits,jpv];exact h
  ·rename_i xs ys;obtain⟨xs',rfl,lx⟩:=ha.agg_inv;obtain⟨ys',rfl,ly⟩:=hb.agg_inv;rw[Qo,Jc]at h;obtain⟨hl,hall⟩:=h;have e1:=lx.len;have e2:=ly.len;simp only[Instr.sameBits,Qo,beq_iff_eq];refine⟨aa,?_⟩;rw[Qq]at hall ⊢;rintro⟨x,y⟩ hm;obtain⟨i,hi,he⟩:=Jt hm;simp only[List.length_zip,Jg]at hi;simp only[List.getElem_zip,Array.getElem_toList,K5]at he;obtain⟨rfl,rfl⟩:=he
   have hz:=hall (xs[i]' aa,ys[i]' aa) (by
    have:i<(xs.zip ys).length:=by simp;omega
    have:=Xb this;simpa using this)
   exact ih n _ _ _ _ aa (lx.rel i aa aa) (ly.rel i aa aa) hz
theorem jhV {kt:TypeId}{ud:TypeDesc}(hu:E.P.underlying kt=some ud)(hp:jht E kt=true){k:V}{k':Value}(hk:VRel Γ k k'):∀(es:List (V × V × Nat)) (xs:List MapEntry) (i:Nat) (r:Option Nat),ERel Γ es xs->jdh E kt k es i=some r ->
  ∃r',Instr.findNow ud k' xs i=some r'/\(r=none->r'=none)/\∀j,r=some j->i<=j/\j<i+es.length/\∃e x,es[j-i]? = some e/\xs[j-i]? = some x/\r'=some (j,x.val)
 | [],[],i,r,hr,h=>by
  simp only[jdh,Ke]at h;subst h;exact⟨none,rfl,λ_=>rfl,λj h=>by cases h⟩
 | [],_::_,i,r,hr,h=>by have:=hr.1;simp at this
 |_::_,[],i,r,hr,h=>by have:=hr.1;simp at this
 | e::es,x::xs,i,r,hr,h=>by
  obtain⟨h1,h2,h3,h4⟩:=hr.cons;simp only[jdh,Ko]at h;obtain⟨b,hb,h⟩:=h
  have he:Instr.sameNow ud k' x.key=some b:=by
   simp only[jht,hu]at hp;generalize hy:e.1=y at hb h1;simp only[eqT,hu]at hb;split at hb
   ·rename_i heq;cases heq;obtain rfl:=hk.bool_inv;rw[h1.bool_inv];exact hb
   ·rename_i heq;cases heq;obtain rfl:=hk.int_inv;rw[h1.int_inv];exact hb
   ·rename_i heq;cases heq;obtain⟨x1,rfl,e1⟩:=hk.str_inv;obtain⟨x2,hx2,e2⟩:=h1.str_inv;rw[hx2];subst e1 e2;simp only[Instr.sameNow,jpv];exact hb
   ·rename_i heq;cases heq;simp at hp
   ·rename_i heq;cases heq;simp at hp
   ·simp at hb
  cases b with
  |true =>
   simp only[Km,Ke]at h;subst h;refine⟨some (i,x.val),by simp[Instr.findNow,he],λh=>(by cases h),λj hj => ?_⟩;cases hj;exact⟨K8 _,ae,e,x,ae,ae,rfl⟩
  |false =>
   simp only[Kr,Kq]at h;obtain⟨r',q1,q2,q3⟩:=jhV hu hp hk es xs (i+1) r h4 h;refine⟨r',by simp[Instr.findNow,he,q1],q2,λj hj => ?_⟩;obtain⟨c1,c2,e',x',c3,c4,c5⟩:=q3 j hj;refine⟨aa,by simp;omega,e',x',?_,?_,c5⟩
   ·rw[show j-i=(j-(i+1))+1 by omega,Q8];exact c3
   ·rw[show j-i=(j-(i+1))+1 by omega,Q8];exact c4
theorem jfW {kt:TypeId}{ud:TypeDesc}(hu:E.P.underlying kt=some ud){k:V}{k':Value}(hk:VRel Γ k k'){es:List (V × V × Nat)}{xs:List MapEntry}{r:Option Nat}(hr:ERel Γ es xs)(h:jdh E kt k es 0=some r) :
  ∃r',(Instr.findKey kt k' xs).run E.P w=.ok r' w/\(r=none->r'=none)/\∀j,r=some j->j<es.length/\∃e x,es[j]? = some e/\xs[j]? = some x/\r'=some (j,x.val):=by
 by_cases hp:jht E kt=true
 ·obtain⟨r',q1,q2,q3⟩:=jhV hu hp hk es xs 0 r hr h;refine⟨r',by simp[Instr.findKey,jag hu,q1],q2,λj hj => ?_⟩;have:=q3 j hj;simpa using this
 ·cases xs with
  |nil =>
   have:es=[]:=Q5 (by have:=hr.1;simpa using this);subst this;simp only[jdh,Ke]at h;subst h;exact⟨none,by simp[Instr.findKey,jag hu,Instr.findNow],λ_=>rfl,λj h=>by cases h⟩
  | cons x xs =>
   obtain⟨r',q1,q2,q3⟩:=jfJ (w:=w) hk es (x::xs) 0 r hr h
   have hn:Instr.findNow ud k' (x::xs) 0=none:=by
    have:Instr.sameNow ud k' x.key=none:=by
     simp only[jht,hu]at hp;cases ud<;>first|(simp at hp;done)|(simp[Instr.sameNow];done)
    simp[Instr.findNow,this]
   refine⟨r',by simp[Instr.findKey,jag hu,hn,q1],q2,λj hj => ?_⟩;have:=q3 j hj;simpa using this
theorem jgM(em:Bool):∀(d n:Nat) (t:TypeId) (v:V) (v':Value),d<=n->VRel Γ v v'->jdy E d t v=true->(Instr.checkKey em n t v').run E.P w=.ok () w:=by
 intro d
 induction d with
 |zero=>intro n t v v' hd hv h;simp[jdy]at h
 | succ d ih =>
  intro n t v v' hd hv h;obtain⟨n,rfl⟩:∃m,n=m+1:=⟨n-1,aa⟩;simp only[jdy]at h;split at h
  ·rename_i hu;simp[Instr.checkKey,jag hu]
  ·rename_i hu;simp[Instr.checkKey,jag hu]
  ·rename_i hu;simp[Instr.checkKey,jag hu]
  ·rename_i fields cs hu;obtain⟨xs,rfl,lx⟩:=hv.agg_inv;rw[Instr.checkKey];simp only[Sem.run_bind,jag hu,Result.andThen_ok];rw[<- Array.forIn_toList];generalize fields.toList=L at h
   induction L with
   |nil=>simp
   | cons f L ihL =>
    rw[Ku,Qo]at h;obtain⟨h1,h2⟩:=h;have ihL:=ihL h2;by_cases hn:f.name = "_"
    ·simp only[X8,Sem.run_bind,hn,ne_eq,not_true_eq_false,Kq,Sem.run_pure,Result.andThen_ok];exact ihL
    ·have hn':(f.name== "_")=false:=by simpa using hn
     rw[hn',Xx]at h1;split at h1
     ·rename_i s g hs hg;split at h1
      ·rename_i x hx;obtain⟨y,p1,r1⟩:=jeA (w:=w) (E:=E) hg hs lx hx;have p2:=ih n f.type x y aa r1 h1;simp only[X8,Sem.run_bind,hn,ne_eq,Q9,Km,p1,p2,Result.andThen_ok,Sem.run_pure];exact ihL
      ·simp at h1
     ·simp at h1
  ·simp at h
end
structure Upd (w w':World) (c:Nat) (ob:Obj):Prop where
 os:w'.os=w.os
 tape:w'.tape=w.tape
 output:w'.output=w.output
 size:w'.heap.size=w.heap.size
 here:w'.heap[c]? = some ob
 other:∀k,k ≠ c->w'.heap[k]? = w.heap[k]?
theorem Upd.below {w w':World}{c B:Nat}{ob:Obj}(h:Upd w w' c ob)(hB:B<=c):Below B w w' :=
 ⟨h.os,h.tape,h.output,X7 h.size.symm,λk hk=>h.other k aa⟩
theorem Upd.setRow {w:World}{c:Nat}{xs ys:Array Value}{t:TypeId}{fr:Nat × Nat}(h:w.heap[c]? = some (.cells xs t fr)):Upd w (w.setRow c ys) c (.cells ys t fr) :=
 ⟨rfl,rfl,rfl,ae,setRow_heap w c xs ys t fr h,λk hk=>setRow_other w c k ys hk⟩
theorem Upd.putObj {w:World}{c:Nat}{ob:Obj}(h:c<w.heap.size):Upd w { w with heap:=w.heap.setIfInBounds c ob } c ob :=
 ⟨rfl,rfl,rfl,ae,by simp[h],λk hk=>by simp[Ne.symm hk]⟩
theorem jb7 {w w':World}{b:Nat}(h:w'.heap[b]? = w.heap[b]?)(i:Nat):w'.cell? ⟨b,i,none⟩=w.cell? ⟨b,i,none⟩:=by
 simp[World.cell?,h]
theorem jcP {w:World}{b i:Nat}{x:Value}(h:w.cell? ⟨b,i,none⟩=some x):b<w.heap.size:=by
 unfold World.cell? at h;split at h
 ·exact(Qh.1 ‹_›).1
 ·simp at h
section
variable {Γ:Ctx}{U:S}{w w':World}
theorem WRel.at(h:WRel Γ U w){a c:Nat}{o:AObj}(hb:Γ.blk a=some c)(ho:U.heap[a]? = some o):∃ob,w.heap[c]? = some ob/\ORel Γ o ob/\Γ.base<=c/\(o.isRo=false->∀i,Γ.pin c i=none):=by
 rcases h.live a o ho with⟨_,hn⟩|⟨c',ob,h1,h2,h3⟩
 ·rw[hb]at hn;cases hn
 rw[hb]at h1;cases h1;exact⟨ob,h2,h3⟩
theorem WRel.lt(h:WRel Γ U w){a c:Nat}(hb:Γ.blk a=some c):c<w.heap.size:=by
 have hd:=h.dom a c hb;obtain⟨ob,h2,_⟩:=h.at hb (o:=U.heap[a]) (by simp[hd]);exact(Qh.1 h2).1
theorem WRel.above(h:WRel Γ U w){a c:Nat}(hb:Γ.blk a=some c):Γ.base<=c:=by
 have hd:=h.dom a c hb;obtain⟨ob,h1,h2,h3⟩:=h.at hb (o:=U.heap[a]) (by simp[hd]);exact h3.1
theorem WRel.nopin(h:WRel Γ U w){a c:Nat}(hb:Γ.blk a=some c){o:AObj}(ho:U.heap[a]? = some o)(hr:o.isRo=false):Γ.base<=c/\∀i,Γ.pin c i=none:=by
 obtain⟨ob,h1,h2,h3,h4⟩:=h.at hb ho;exact⟨h3,h4 hr⟩
theorem WRel.same(h:WRel Γ U w)(hh:w'.heap=w.heap):WRel Γ U w':=by
 obtain⟨h1,h2,h3,h4,h5,h6,h7,h8,h9⟩:=h;refine⟨by rw[hh];exact h1,λb i x hx => ?_,λa o ho => ?_,h4,h5,λk e he => ?_,h7,h8,λc n hc=>by rw[hh];exact h9 c n hc⟩
 ·rw[jb7 (w:=w) (by rw[hh])];exact h2 b i x hx
 ·rw[hh];exact h3 a o ho
 ·rw[hh];exact h6 k e he
theorem jjR {o:AObj}(h:o.isRo=false):o ≠ .dead:=by rintro rfl;simp[AObj.isRo]at h
theorem WRel.apart(h:WRel Γ U w){a a' c c':Nat}{o o':AObj}(hb:Γ.blk a=some c)(hb':Γ.blk a'=some c')(ho:U.heap[a]? = some o)(ho':U.heap[a']? = some o')(hd:o ≠ .dead)(hd':o' ≠ .dead)
  (hne:¬a=a'):c' ≠ c:=λe=>hne (h.inj a a' c hb (e ▸ hb') (λx hx=>by rw[ho]at hx;cases hx;exact hd) (λx hx=>by rw[ho']at hx;cases hx;exact hd'))
theorem WRel.inj_set(h:WRel Γ U w){a:Nat}{o o0:AObj}(h0:U.heap[a]? = some o0)(hd:o0 ≠ .dead) :
  ∀x x' c,Γ.blk x=some c->Γ.blk x'=some c->(∀p:AObj,(U.set a o).heap[x]? = some p->p ≠ .dead)->(∀p:AObj,(U.set a o).heap[x']? = some p->p ≠ .dead)->x=x':=by
 have key:∀x:Nat,(∀p:AObj,(U.set a o).heap[x]? = some p->p ≠ .dead)->∀p:AObj,U.heap[x]? = some p->p ≠ .dead:=by
  intro x hx p hp;by_cases e:a=x
  ·subst e;rw[h0]at hp;cases hp;exact hd
  ·exact hx p (by simp only[S.set,J5];rw[Kh e];exact hp)
 exact λx x' c h1 h2 h3 h4=>h.inj x x' c h1 h2 (key x h3) (key x' h4)
def AObj.isMem:AObj->Bool
 | .cells _ _=>true
 |_=>false
theorem WRel.sizes_upd(h:WRel Γ U w){c:Nat}{ob:Obj}(hu:Upd w w' c ob)(hk:∀xs t f,w.heap[c]? = some (.cells xs t f)->∃ys t' f',ob=.cells ys t' f'/\ys.size=xs.size) :
  ∀c' n,Γ.siz c'=some n->∃xs t f,w'.heap[c']? = some (.cells xs t f)/\xs.size=n:=by
 intro c' n hc;obtain⟨xs,t,f,h1,h2⟩:=h.sizes c' n hc;by_cases e:c'=c
 ·subst e;obtain⟨ys,t',f',e1,e2⟩:=hk xs t f h1;exact⟨ys,t',f',by rw[hu.here,e1],aa⟩
 ·exact⟨xs,t,f,by rw[hu.other c' e];exact h1,h2⟩
theorem WRel.upd(h:WRel Γ U w){a c:Nat}{o o0:AObj}{ob:Obj}(hu:Upd w w' c ob)(hb:Γ.blk a=some c)(h0:U.heap[a]? = some o0)(hr:o0.isRo=false)(ho:ORel Γ o ob)
  (hk:o0.isMem=true->∀xs t f,w.heap[c]? = some (.cells xs t f)->∃ys t' f',ob=.cells ys t' f'/\ys.size=xs.size:=by(intro e;cases e)):Moved Γ Γ (U.set a o) w w':=by
 have hnp:=h.nopin hb h0 hr
 have hk':∀xs t f,w.heap[c]? = some (.cells xs t f)->∃ys t' f',ob=.cells ys t' f'/\ys.size=xs.size:=by
  intro xs t f hx;refine hk ?_ xs t f hx;obtain⟨ob',g1,g2,_⟩:=h.at hb h0;rw[hx]at g1;cases g1;cases o0<;>simp[ORel,AObj.isRo,AObj.isMem]at g2 hr ⊢
 refine⟨Ctx.le.refl _,⟨?_,?_,?_,?_,h.inj_set h0 (jjR hr),?_,h.tokdom,h.tokinj,h.sizes_upd hu hk'⟩,hu.below hnp.1⟩
 ·rw[hu.size];exact h.size
 ·intro b i x hx;have hne:b ≠ c:=by intro e;subst e;rw[hnp.2 i]at hx;simp at hx
  rw[jb7 (hu.other b hne)];exact h.pins b i x hx
 ·intro a' o' ho';simp only[S.set,J5]at ho';split at ho'
  ·rename_i e;subst e;split at ho'
   ·simp at ho';subst ho';exact .inr ⟨c,ob,hb,hu.here,ho,hnp.1,λ_=>hnp.2⟩
   ·simp at ho'
  ·rename_i hne
   rcases h.live a' o' ho' with hrv|⟨c',ob',h1,h2,h3⟩
   ·exact .inl hrv
   right;by_cases hdd:o'=.dead
   ·subst hdd;by_cases e:c'=c
    ·subst e;exact⟨c',ob,h1,hu.here,trivial,h3.2⟩
    ·exact⟨c',ob',h1,by rw[hu.other c' e];exact h2,h3⟩
   have:c' ≠ c:=h.apart hb h1 h0 ho' (jjR hr) hdd hne;exact⟨c',ob',h1,by rw[hu.other c' this];exact h2,h3⟩
 ·intro a' c' h';simpa[S.set]using h.dom a' c' h'
 ·intro k e he;obtain⟨b,pos,spare,s,t,xs,h1,h2,h3,h4,h5,h6⟩:=h.toks k e he;have:b ≠ c:=λe=>h6 a (e ▸ hb)
  exact⟨b,pos,spare,s,t,xs,h1,by rw[hu.other b this];exact h2,h3,h4,h5,h6⟩
def Ctx.freeze(Γ:Ctx)(w:World)(c:Nat):Ctx:={ Γ with pin:=λb i=>if b=c then w.cell? ⟨c,i,none⟩else Γ.pin b i }
theorem WRel.freezeF(h:WRel Γ U w){a c:Nat}(hb:Γ.blk a=some c){cs:List V}{t:TypeId}{xs:Array Value}{fr:Nat × Nat}(ho:U.heap[a]? = some (.cells cs t))(hx:w.heap[c]? = some (.cells xs t (0,0)))
  (hu:Upd w w' c (.cells xs t fr)):Moved Γ (Γ.freeze w c) (U.set a (.ro cs t)) w w':=by
 obtain⟨ob,g1,g2,g3,g4⟩:=h.at hb ho;have g4:=g4 rfl;rw[hx]at g1;cases g1
 have hle:Γ.le (Γ.freeze w c):=by
  refine⟨rfl,λ_ _ h=>h,λb i x hq => ?_,λ_ _ _ h=>h,λb i x hq => ?_,λ_ _ h=>h⟩
  ·have hne:b ≠ c:=by intro e;subst e;rw[g4 i]at hq;simp at hq
   simp only[Ctx.freeze];rw[Kh hne];exact hq
  ·simp only[Ctx.freeze]at hq;split at hq
   ·rename_i e;subst e;exact .inr g3
   ·exact .inl hq
 refine⟨hle,⟨?_,?_,?_,?_,h.inj_set ho (by intro e;cases e),?_,h.tokdom,h.tokinj,h.sizes_upd hu (λxs' t' f' e=>by rw[hx]at e;cases e;exact⟨_,_,_,rfl,rfl⟩)⟩,hu.below g3⟩
 ·rw[hu.size];exact h.size
 ·intro b i x hx';simp only[Ctx.freeze]at hx';split at hx'
  ·rename_i e;subst e;simp only[World.cell?,hx]at hx';simp only[World.cell?,hu.here];exact hx'
  ·rename_i hne;rw[jb7 (hu.other b hne)];exact h.pins b i x hx'
 ·intro a' o' ho';simp only[S.set,J5]at ho';split at ho'
  ·rename_i e;subst e;split at ho'
   ·simp at ho';subst ho';refine .inr ⟨c,_,hb,hu.here,?_,g3,λhr=>by simp[AObj.isRo]at hr⟩;exact ORel.mono hle ⟨rfl,rfl,g2.2.2.1,g2.2.2.2⟩
   ·simp at ho'
  ·rename_i hne
   rcases h.live a' o' ho' with hrv|⟨c',ob',h1,h2,h3,h4,h5⟩
   ·exact .inl hrv
   right;by_cases hdd:o'=.dead
   ·subst hdd;by_cases e:c'=c
    ·subst e;exact⟨c',_,h1,hu.here,trivial,h4,λhr=>by simp[AObj.isRo]at hr⟩
    ·exact⟨c',ob',h1,by rw[hu.other c' e];exact h2,trivial,h4,λhr=>by simp[AObj.isRo]at hr⟩
   have hcc:c' ≠ c:=h.apart hb h1 ho ho' (by intro e;cases e) hdd hne;exact⟨c',ob',h1,by rw[hu.other c' hcc];exact h2,h3.mono hle,h4,λhr i=>by simp only[Ctx.freeze];rw[Kh hcc];exact h5 hr i⟩
 ·intro a' c' h';simpa[S.set]using h.dom a' c' h'
 ·intro k e he;obtain⟨b,pos,spare,s,t,xs,h1,h2,h3,h4,h5,h6⟩:=h.toks k e he;have hbc:b ≠ c:=λe=>h6 a (e ▸ hb)
  exact⟨b,pos,spare,s,t,xs,h1,by rw[hu.other b hbc];exact h2,h3,h4,λi hi=>by simp only[Ctx.freeze];rw[Kh hbc];exact h5 i hi,h6⟩
def Ctx.push(Γ:Ctx)(a c:Nat):Ctx:={ Γ with blk:=λx=>if x=a then some c else Γ.blk x }
theorem jbA(w:World)(o:Obj)(k:Nat)(h:k<w.heap.size):(w.heap.push o)[k]? = w.heap[k]? := by
 rw[Array.getElem?_push,Kh aa]
theorem jgN(B:Nat)(w:World)(o:Obj)(hB:B<=w.heap.size):Below B w { w with heap:=w.heap.push o } :=
 ⟨rfl,rfl,rfl,ae,λk hk=>jbA w o k aa⟩
theorem WRel.fresh(h:WRel Γ U w)(i:Nat):Γ.pin w.heap.size i=none:=by
 cases hp:Γ.pin w.heap.size i with
 |none=>rfl
 |some x=>have:=jcP (h.pins _ _ _ hp);omega
theorem WRel.toklt(h:WRel Γ U w){k e b p:Nat}{q}(he:U.toks[k]? = some e)(ht:Γ.tok k e=some (b,p,q)):b<w.heap.size:=by
 obtain⟨b',pos,spare,s,t,xs,h1,h2,_⟩:=h.toks k e he;rw[ht]at h1;cases h1;exact(Qh.1 h2).1
theorem WRel.sizes_push(h:WRel Γ U w)(ob:Obj):∀c' n,Γ.siz c'=some n->∃xs t f,(w.heap.push ob)[c']? = some (.cells xs t f)/\xs.size=n:=by
 intro c' n hc;obtain⟨xs,t,f,h1,h2⟩:=h.sizes c' n hc;exact⟨xs,t,f,by rw[jbA w ob c' (Qh.1 h1).1];exact h1,h2⟩
theorem WRel.push(h:WRel Γ U w){o:AObj}{ob:Obj}(ho:ORel Γ o ob) :
  Moved Γ (Γ.push U.heap.length w.heap.size) (U.push o) w { w with heap:=w.heap.push ob }:=by
 have hle:Γ.le (Γ.push U.heap.length w.heap.size):=by
  refine⟨rfl,λb c hb => ?_,λ_ _ _ h=>h,λ_ _ _ h=>h,λ_ _ _ h=>.inl h,λ_ _ h=>h⟩;have:=h.dom b c hb;simp only[Ctx.push];rw[Kh aa];exact hb
 refine⟨hle,⟨?_,?_,?_,?_,?_,?_,h.tokdom,h.tokinj,h.sizes_push ob⟩,jgN _ _ _ h.size⟩
 ·have:=h.size;simp[Ctx.push];omega
 ·intro b i x hx;have hx':=h.pins b i x hx;have:=jcP hx';rw[jb7 (w:=w) (by exact jbA w ob b this)];exact hx'
 ·intro a o' ho';simp only[S.push,Vs]at ho';split at ho'
  ·rename_i hlt
   rcases h.live a o' ho' with⟨hrv,hn⟩|⟨c,ob',h1,h2,h3,h4⟩
   ·exact .inl ⟨hrv,by simp only[Ctx.push];rw[Kh aa];exact hn⟩
   refine .inr ⟨c,ob',hle.blk _ _ h1,?_,h3.mono hle,h4⟩;rw[<- h2];exact jbA w ob c (Qh.1 h2).1
  ·rename_i hge
   have ha:a=U.heap.length:=by
    cases hk:a-U.heap.length with
    |zero=>omega
    |succ n=>rw[hk]at ho';simp at ho'
   subst ha;simp at ho';subst ho';exact .inr ⟨w.heap.size,ob,by simp[Ctx.push],ae,ho.mono hle,h.size,λ_ i=>h.fresh i⟩
 ·intro a c hb;simp only[Ctx.push]at hb;simp only[S.push,Kk,Qn,Qx];split at hb
  ·omega
  ·have:=h.dom a c hb;omega
 ·intro a a' c h1 h2 d1 d2;simp only[Ctx.push]at h1 h2;split at h1<;>split at h2
  ·omega
  ·simp at h1;subst h1;have:=h.lt h2;omega
  ·simp at h2;subst h2;have:=h.lt h1;omega
  ·have key:∀x c,Γ.blk x=some c->(∀p:AObj,(U.push o).heap[x]? = some p->p ≠ .dead)->∀p:AObj,U.heap[x]? = some p->p ≠ .dead:=by
    intro x c hx hq p hp;refine hq p ?_;simp only[S.push];rw[Ki (K4.1 hp).1];exact hp
   exact h.inj a a' c h1 h2 (key a c h1 d1) (key a' c h2 d2)
 ·intro k e he;obtain⟨b,pos,spare,s,t,xs,h1,h2,h3,h4,h5,h6⟩:=h.toks k e he;have hlt:=(Qh.1 h2).1;refine⟨b,pos,spare,s,t,xs,h1,?_,h3,h4,h5,λa ha => ?_⟩
  ·rw[<- h2];exact jbA w ob b hlt
  ·simp only[Ctx.push]at ha;split at ha
   ·simp at ha;omega
   ·exact h6 a ha
def Ctx.pinRow(Γ:Ctx)(b n:Nat)(xs:Array Value):Ctx:={ Γ with pin:=λc i=>if c=b then(if i<n then xs[i]? else none)else Γ.pin c i }
theorem WRel.pinRowF(h:WRel Γ U w){n:Nat}{xs:Array Value}{t:TypeId}(fr:Nat × Nat) :
  Moved Γ (Γ.pinRow w.heap.size n xs) U w { w with heap:=w.heap.push (.cells xs t fr) }:=by
 have hle:Γ.le (Γ.pinRow w.heap.size n xs):=by
  refine⟨rfl,λ_ _ h=>h,λb i x hx => ?_,λ_ _ _ h=>h,λb i x hx => ?_,λ_ _ h=>h⟩
  ·simp only[Ctx.pinRow];rw[Kh (by intro e;subst e;rw[h.fresh i]at hx;simp at hx)];exact hx
  ·simp only[Ctx.pinRow]at hx;split at hx
   ·rename_i e;exact .inr (e ▸ h.size)
   ·exact .inl hx
 refine⟨hle,⟨?_,?_,?_,h.dom,h.inj,?_,h.tokdom,h.tokinj,h.sizes_push _⟩,jgN _ _ _ h.size⟩
 ·have:=h.size;simp[Ctx.pinRow];omega
 ·intro b i x hx;simp only[Ctx.pinRow]at hx;split at hx
  ·rename_i e;subst e;split at hx
   ·simp[World.cell?,hx]
   ·simp at hx
  ·have hx':=h.pins b i x hx;have:=jcP hx';rw[jb7 (w:=w) (by exact jbA w _ b this)];exact hx'
 ·intro a o ho
  rcases h.live a o ho with hrv|⟨c,ob',h1,h2,h3,h4,h5⟩
  ·exact .inl hrv
  have hlt:=(Qh.1 h2).1;refine .inr ⟨c,ob',h1,?_,h3.mono hle,h4,λhr i => ?_⟩
  ·rw[<- h2];exact jbA w _ c hlt
  ·simp only[Ctx.pinRow];rw[Kh aa];exact h5 hr i
 ·intro k e he;obtain⟨b,pos,spare,s,t',xs',h1,h2,h3,h4,h5,h6⟩:=h.toks k e he;have hlt:=(Qh.1 h2).1;refine⟨b,pos,spare,s,t',xs',h1,?_,h3,h4,λi hi => ?_,h6⟩
  ·rw[<- h2];exact jbA w _ b hlt
  ·simp only[Ctx.pinRow];rw[Kh aa];exact h5 i hi
theorem WRel.pinRow(h:WRel Γ U w){n:Nat}{xs:Array Value}{t:TypeId} :
  Moved Γ (Γ.pinRow w.heap.size n xs) U w { w with heap:=w.heap.push (.cells xs t (0,0)) }:=h.pinRowF (0,0)
def Ctx.setTok(Γ:Ctx)(k e:Nat)(x:Nat × Nat × Nat × Nat):Ctx:={ Γ with tok:=λk' e'=>if k'=k/\e'=e then some x else Γ.tok k' e' }
theorem WRel.newTok(h:WRel Γ U w){b pos spare s:Nat}{xs:Array Value}{t:TypeId}(hb:w.heap[b]? = some (.cells xs t (0,0)))(hs:xs.size=pos+spare*s)(hbase:Γ.base<=b)
  (hp:∀i,pos<=i->Γ.pin b i=none) (hn:∀a,Γ.blk a ≠ some b) (hnt:∀k e p q,U.toks[k]? = some e->Γ.tok k e=some (p,q)->p ≠ b) :
  Moved Γ (Γ.setTok U.toks.length 0 (b,pos,spare,s)) ⟨U.heap,U.toks++[0]⟩ w w:=by
 have hno:∀e x,Γ.tok U.toks.length e=some x->False:=by
  intro e x hx;obtain⟨e',h1,_⟩:=h.tokdom _ _ _ hx;simp at h1
 have hle:Γ.le (Γ.setTok U.toks.length 0 (b,pos,spare,s)):=by
  refine⟨rfl,λ_ _ h=>h,λ_ _ _ h=>h,λk e x hx => ?_,λ_ _ _ h=>.inl h,λ_ _ h=>h⟩;simp only[Ctx.setTok];rw[Kh (by rintro⟨rfl,rfl⟩;exact hno _ _ hx)];exact hx
 have hget:∀k e,(U.toks++[0])[k]? = some e->(U.toks[k]? = some e/\k<U.toks.length)\/(k=U.toks.length/\e=0):=by
  intro k e he;rw[Vs]at he;split at he
  ·exact .inl ⟨he,‹_›⟩
  ·refine .inr ?_;cases hk:k-U.toks.length with
   |zero=>rw[hk]at he;simp at he;exact⟨aa,he.symm⟩
   |succ n=>rw[hk]at he;simp at he
 refine⟨hle,⟨h.size,h.pins,λa o ho => ?_,h.dom,h.inj,?_,?_,?_,h.sizes⟩,Below.refl _ _⟩
 ·rcases h.live a o ho with hrv|⟨c,ob,h1,h2,h3,h4⟩
  ·exact .inl hrv
  exact .inr ⟨c,ob,h1,h2,h3.mono hle,h4⟩
 ·intro k e he
  rcases hget k e he with⟨he',hk⟩|⟨rfl,rfl⟩
  ·obtain⟨b',pos',spare',s',t',xs',h1,h2,h3,h4,h5,h6⟩:=h.toks k e he';exact⟨b',pos',spare',s',t',xs',hle.tok _ _ _ h1,h2,h3,h4,h5,h6⟩
  ·exact⟨b,pos,spare,s,t,xs,by simp[Ctx.setTok],hb,hs,hbase,hp,hn⟩
 ·intro k e x hx;simp only[Ctx.setTok]at hx;split at hx
  ·rename_i hc;obtain⟨rfl,rfl⟩:=hc;exact⟨0,ae,K8 _⟩
  ·obtain⟨e',h1,h2⟩:=h.tokdom _ _ _ hx;refine⟨e',?_,h2⟩;rw[Ki (K4.1 h1).1];exact h1
 ·intro k k' e e' p q q' he he' h1 h2;simp only[Ctx.setTok]at h1 h2
  rcases hget k e he with⟨a1,a2⟩|⟨rfl,rfl⟩<;>rcases hget k' e' he' with⟨b1,b2⟩|⟨rfl,rfl⟩
  ·rw[Kh aa]at h1 h2;exact h.tokinj k k' e e' p q q' a1 b1 h1 h2
  ·rw[Kh aa]at h1;rw[Kj ⟨rfl,rfl⟩]at h2;cases h2;exact absurd rfl (hnt k e _ _ a1 h1)
  ·rw[Kh aa]at h2;rw[Kj ⟨rfl,rfl⟩]at h1;cases h1;exact absurd rfl (hnt k' e' _ _ b1 h2)
  ·rfl
theorem Upd.refl {w:World}{c:Nat}{ob:Obj}(h:w.heap[c]? = some ob):Upd w w c ob:=⟨rfl,rfl,rfl,rfl,h,λ_ _=>rfl⟩
def Ctx.setSiz(Γ:Ctx)(c n:Nat):Ctx:={ Γ with siz:=λk=>if k=c then some n else Γ.siz k }
theorem WRel.setSiz(h:WRel Γ U w){c n:Nat}{xs:Array Value}{t:TypeId}{f:Nat × Nat}(hx:w.heap[c]? = some (.cells xs t f))(hn:xs.size=n):Moved Γ (Γ.setSiz c n) U w w:=by
 have hle:Γ.le (Γ.setSiz c n):=by
  refine⟨rfl,λ_ _ h=>h,λ_ _ _ h=>h,λ_ _ _ h=>h,λ_ _ _ h=>.inl h,λk m hk => ?_⟩;simp only[Ctx.setSiz];split
  ·rename_i e;subst e;obtain⟨ys,t',f',h1,h2⟩:=h.sizes _ _ hk;rw[hx]at h1;cases h1;rw[<- hn,h2]
  ·exact hk
 refine⟨hle,⟨h.size,h.pins,λa o ho => ?_,h.dom,h.inj,h.toks,h.tokdom,h.tokinj,λk m hk => ?_⟩,Below.refl _ _⟩
 ·rcases h.live a o ho with hrv|⟨c,ob,h1,h2,h3,h4⟩
  ·exact .inl hrv
  exact .inr ⟨c,ob,h1,h2,h3.mono hle,h4⟩
 ·simp only[Ctx.setSiz]at hk;split at hk
  ·rename_i e;subst e;cases hk;exact⟨xs,t,f,hx,hn⟩
  ·exact h.sizes _ _ hk
theorem WRel.aliasNew(h:WRel Γ U w){a c:Nat}{o:AObj}{ob:Obj}(hb:Γ.blk a=some c)(hx:w.heap[c]? = some ob)(ho:ORel Γ o ob)(hnp:o.isRo=false->∀i,Γ.pin c i=none)
  (honly:∀x,Γ.blk x=some c->(∀p,U.heap[x]? = some p->p ≠ .dead)->False):Moved Γ (Γ.push U.heap.length c) (U.push o) w w:=by
 have hle:Γ.le (Γ.push U.heap.length c):=by
  refine⟨rfl,λb c hb => ?_,λ_ _ _ h=>h,λ_ _ _ h=>h,λ_ _ _ h=>.inl h,λ_ _ h=>h⟩;have:=h.dom b c hb;simp only[Ctx.push];rw[Kh aa];exact hb
 have key:∀x c,Γ.blk x=some c->(∀p:AObj,(U.push o).heap[x]? = some p->p ≠ .dead)->∀p:AObj,U.heap[x]? = some p->p ≠ .dead:=by
  intro x c hx hq p hp;refine hq p ?_;simp only[S.push];rw[Ki (K4.1 hp).1];exact hp
 refine⟨hle,⟨h.size,h.pins,?_,?_,?_,?_,h.tokdom,h.tokinj,h.sizes⟩,Below.refl _ _⟩
 ·intro a' o' ho';simp only[S.push,Vs]at ho';split at ho'
  ·rename_i hlt
   rcases h.live a' o' ho' with⟨hrv,hn⟩|⟨c',ob',h1,h2,h3,h4⟩
   ·exact .inl ⟨hrv,by simp only[Ctx.push];rw[Kh aa];exact hn⟩
   exact .inr ⟨c',ob',hle.blk _ _ h1,h2,h3.mono hle,h4⟩
  ·rename_i hge
   have ha:a'=U.heap.length:=by
    cases hk:a'-U.heap.length with
    |zero=>omega
    |succ n=>rw[hk]at ho';simp at ho'
   subst ha;simp at ho';subst ho';exact .inr ⟨c,ob,by simp[Ctx.push],hx,ho.mono hle,h.above hb,hnp⟩
 ·intro x c' hb';simp only[Ctx.push]at hb';simp only[S.push,Kk,Qn,Qx];split at hb'
  ·omega
  ·have:=h.dom x c' hb';omega
 ·intro x x' c' h1 h2 d1 d2;simp only[Ctx.push]at h1 h2;split at h1<;>split at h2
  ·omega
  ·simp at h1;subst h1;exact(honly x' h2 (key x' c h2 d2)).elim
  ·simp at h2;subst h2;exact(honly x h1 (key x c h1 d1)).elim
  ·exact h.inj x x' c' h1 h2 (key x c' h1 d1) (key x' c' h2 d2)
 ·intro k e he;obtain⟨b,pos,spare,s,t,xs,h1,h2,h3,h4,h5,h6⟩:=h.toks k e he;refine⟨b,pos,spare,s,t,xs,h1,h2,h3,h4,h5,λx hx' => ?_⟩;simp only[Ctx.push]at hx';split at hx'
  ·simp at hx';subst hx';exact h6 a hb
  ·exact h6 x hx'
theorem WRel.rename(h:WRel Γ U w){a c:Nat}{o o0:AObj}{ob:Obj}(hu:Upd w w' c ob)(hb:Γ.blk a=some c)(h0:U.heap[a]? = some o0)(hr:o0.isRo=false)(ho:ORel Γ o ob)
  (hk:∀xs t f,w.heap[c]? = some (.cells xs t f)->∃ys t' f',ob=.cells ys t' f'/\ys.size=xs.size):Moved Γ (Γ.push U.heap.length c) ((U.set a .dead).push o) w w':=by
 have hnp:=h.nopin hb h0 hr;have m1:=h.upd (o:=.dead) hu hb h0 hr (by cases ob<;>trivial) (λ_=>hk);have e:(U.set a .dead).heap.length=U.heap.length:=by simp[S.set]
 have hlt:=(K4.1 h0).1
 have m2:=m1.rel.aliasNew hb hu.here ho (λ_=>hnp.2) (λx hx hd=>by
  have hxa:¬a=x:=by
   rintro rfl;exact hd .dead (by simp[S.set,hlt]) rfl
  refine hxa (h.inj a x c hb hx (λp hp=>by rw[h0]at hp;cases hp;exact jjR hr) (λp hp=>hd p ?_));simp only[S.set,J5];rw[Kh hxa];exact hp)
 rw[e]at m2;exact m1.trans m2
end
section
variable {Γ:Ctx}{U:S}{w w':World}
theorem jcQ {l:List Nat}{k v k' e:Nat}(h:(l.set k v)[k']? = some e):(k'=k/\e=v/\k<l.length)\/(k' ≠ k/\l[k']? = some e):=by
 rw[J5]at h;split at h
 ·rename_i hk;split at h
  ·simp at h;exact .inl ⟨hk.symm,h.symm,aa⟩
  ·simp at h
 ·rename_i hk;exact .inr ⟨λe=>hk e.symm,h⟩
theorem WRel.moveTok(h:WRel Γ U w){k e:Nat}(hk:U.toks[k]? = some e){b pos spare s:Nat}{xs:Array Value}{t:TypeId}(hb:w.heap[b]? = some (.cells xs t (0,0)))(hs:xs.size=pos+spare*s)(hbase:Γ.base<=b)
  (hp:∀i,pos<=i->Γ.pin b i=none) (hn:∀a,Γ.blk a ≠ some b) (hnt:∀k' e p q,k' ≠ k->U.toks[k']? = some e->Γ.tok k' e=some (p,q)->p ≠ b) :
  Moved Γ (Γ.setTok k (e+1) (b,pos,spare,s)) ⟨U.heap,U.toks.set k (e+1)⟩ w w:=by
 have hno:∀x,Γ.tok k (e+1)=some x->False:=by
  intro x hx;obtain⟨e',h1,h2⟩:=h.tokdom _ _ _ hx;rw[hk]at h1;simp at h1;omega
 have hle:Γ.le (Γ.setTok k (e+1) (b,pos,spare,s)):=by
  refine⟨rfl,λ_ _ h=>h,λ_ _ _ h=>h,λk' e' x hx => ?_,λ_ _ _ h=>.inl h,λ_ _ h=>h⟩;simp only[Ctx.setTok];rw[Kh (by rintro⟨rfl,rfl⟩;exact hno _ hx)];exact hx
 refine⟨hle,⟨h.size,h.pins,λa o ho => ?_,h.dom,h.inj,?_,?_,?_,h.sizes⟩,Below.refl _ _⟩
 ·rcases h.live a o ho with hrv|⟨c,ob,h1,h2,h3,h4⟩
  ·exact .inl hrv
  exact .inr ⟨c,ob,h1,h2,h3.mono hle,h4⟩
 ·intro k' e' he
  rcases jcQ he with⟨rfl,rfl,_⟩|⟨hne,he'⟩
  ·exact⟨b,pos,spare,s,t,xs,by simp[Ctx.setTok],hb,hs,hbase,hp,hn⟩
  ·obtain⟨b',pos',spare',s',t',xs',h1,h2,h3,h4,h5,h6⟩:=h.toks k' e' he';exact⟨b',pos',spare',s',t',xs',hle.tok _ _ _ h1,h2,h3,h4,h5,h6⟩
 ·intro k' e' x hx;simp only[Ctx.setTok]at hx;have hklt:=(K4.1 hk).1;split at hx
  ·rename_i hc;obtain⟨rfl,rfl⟩:=hc;exact⟨e+1,by simp[hklt],K8 _⟩
  ·obtain⟨e2,h1,h2⟩:=h.tokdom _ _ _ hx;by_cases hkk:k'=k
   ·subst hkk;rw[hk]at h1;simp at h1;exact⟨e+1,by simp[hklt],aa⟩
   ·exact⟨e2,by rw[Kg (Ne.symm hkk)];exact h1,h2⟩
 ·intro k1 k2 e1 e2 p q q' he1 he2 h1 h2;simp only[Ctx.setTok]at h1 h2
  rcases jcQ he1 with⟨rfl,rfl,_⟩|⟨a1,a2⟩<;>rcases jcQ he2 with⟨rfl,rfl,_⟩|⟨b1,b2⟩
  ·rfl
  ·rw[Kj ⟨rfl,rfl⟩]at h1;cases h1;rw[Kh (by rintro⟨rfl,_⟩;exact b1 rfl)]at h2;exact absurd rfl (hnt k2 e2 _ _ b1 b2 h2)
  ·rw[Kj ⟨rfl,rfl⟩]at h2;cases h2;rw[Kh (by rintro⟨rfl,_⟩;exact a1 rfl)]at h1;exact absurd rfl (hnt k1 e1 _ _ a1 a2 h1)
  ·rw[Kh (by rintro⟨rfl,_⟩;exact a1 rfl)]at h1;rw[Kh (by rintro⟨rfl,_⟩;exact b1 rfl)]at h2;exact h.tokinj k1 k2 e1 e2 p q q' a2 b2 h1 h2
def Ctx.pinAt(Γ:Ctx)(b pos:Nat)(ys:List Value):Ctx:={ Γ with pin:=λc i=>if c=b/\pos<=i/\i<pos+ys.length then ys[i-pos]? else Γ.pin c i }
theorem WRel.growTok(h:WRel Γ U w){k e:Nat}(hk:U.toks[k]? = some e){b pos spare s m:Nat}(ht:Γ.tok k e=some (b,pos,spare,s)){ys:List Value}(hm:m<=spare)(hys:ys.length=m*s)
  {cur:Array Value} {t:TypeId} (hb:w.heap[b]? = some (.cells cur t (0,0))) :
  Moved Γ ((Γ.pinAt b pos ys).setTok k (e+1) (b,pos+m*s,spare-m,s)) ⟨U.heap,U.toks.set k (e+1)⟩ w
   (w.setRow b (cur.toList.take pos++ys++cur.toList.drop (pos+ys.length)).toArray):=by
 obtain⟨b1,pos1,spare1,s1,t1,xs1,h1,h2,h3,h4,h5,h6⟩:=h.toks k e hk;rw[ht]at h1;cases h1;rw[hb]at h2;cases h2;have hu:=Upd.setRow (ys:=(cur.toList.take pos++ys++cur.toList.drop (pos+ys.length)).toArray) hb;have hms:m*s<=spare*s:=Ja _ hm
 have hsz:(cur.toList.take pos++ys++cur.toList.drop (pos+ys.length)).length=cur.size:=by
  simp;omega
 have hno:∀x,Γ.tok k (e+1)=some x->False:=by
  intro x hx;obtain⟨e',g1,g2⟩:=h.tokdom _ _ _ hx;rw[hk]at g1;simp at g1;omega
 have hle:Γ.le ((Γ.pinAt b pos ys).setTok k (e+1) (b,pos+m*s,spare-m,s)):=by
  refine⟨rfl,λ_ _ h=>h,λc i x hx => ?_,λk' e' x hx => ?_,λc i x hx => ?_,λ_ _ h=>h⟩
  ·simp only[Ctx.setTok,Ctx.pinAt];rw[Kh (by rintro⟨rfl,g1,g2⟩;rw[h5 i g1]at hx;simp at hx)];exact hx
  ·simp only[Ctx.setTok,Ctx.pinAt];rw[Kh (by rintro⟨rfl,rfl⟩;exact hno _ hx)];exact hx
  ·simp only[Ctx.setTok,Ctx.pinAt]at hx;split at hx
   ·rename_i g;exact .inr (g.1 ▸ h4)
   ·exact .inl hx
 have hklt:=(K4.1 hk).1;refine⟨hle,⟨?_,?_,?_,h.dom,h.inj,?_,?_,?_,h.sizes_upd hu (λxs' t' f' e=>by rw[hb]at e;cases e;exact⟨_,_,_,rfl,by simpa using hsz⟩)⟩,hu.below h4⟩
 ·rw[hu.size];exact h.size
 ·intro c i x hx;simp only[Ctx.setTok,Ctx.pinAt]at hx;by_cases hcb:c=b
  ·subst hcb;rw[World.cell?,hu.here];simp only[Ui,Kr,Kq,Xe];split at hx
   ·rename_i g;rw[Qg,Jw (by simp;omega),Ki (by simp;omega)];rw[<- hx];congr 1;simp;omega
   ·rename_i g;have hx2:=h.pins c i x hx;rw[World.cell?,hb]at hx2;simp only[Ui,Kr,Kq]at hx2
    have hip:i<pos:=by
     rcases Qm i pos with hi|hi
     ·exact hi
     ·rw[h5 i hi]at hx;simp at hx
    rw[Qg,Ki (by simp;omega),Jr,Kj hip,Xp];exact hx2
  ·rw[Kh (λg=>hcb g.1)]at hx;rw[jb7 (hu.other c hcb)];exact h.pins c i x hx
 ·intro a o ho
  rcases h.live a o ho with hrv|⟨c,ob,g1,g2,g3,g4,g5⟩
  ·exact .inl hrv
  have hcb:c ≠ b:=λe=>h6 a (e ▸ g1)
  refine .inr ⟨c,ob,g1,by rw[hu.other c hcb];exact g2,g3.mono hle,g4,λhr i => ?_⟩;simp only[Ctx.setTok,Ctx.pinAt];rw[Kh (λg=>hcb g.1)];exact g5 hr i
 ·intro k' e' he
  rcases jcQ he with⟨rfl,rfl,_⟩|⟨hne,he'⟩
  ·refine⟨b,pos+m*s,spare-m,s,t,_,by simp[Ctx.setTok],hu.here,?_,h4,λi hi => ?_,h6⟩
   ·rw[List.size_toArray,hsz,h3,Ud];omega
   ·simp only[Ctx.setTok,Ctx.pinAt];rw[Kh (by rintro⟨_,_,g⟩;omega)];exact h5 i aa
  ·obtain⟨b',pos',spare',s',t',xs',g1,g2,g3,g4,g5,g6⟩:=h.toks k' e' he'
   have hbb:b' ≠ b:=by
    intro ee;subst ee;exact hne (h.tokinj k' k e' e _ _ _ he' hk g1 ht)
   refine⟨b',pos',spare',s',t',xs',hle.tok _ _ _ g1,by rw[hu.other b' hbb];exact g2,g3,g4,λi hi => ?_,g6⟩;simp only[Ctx.setTok,Ctx.pinAt];rw[Kh (λg=>hbb g.1)];exact g5 i hi
 ·intro k' e' x hx;simp only[Ctx.setTok,Ctx.pinAt]at hx;split at hx
  ·rename_i hc;obtain⟨rfl,rfl⟩:=hc;exact⟨e+1,by simp[hklt],K8 _⟩
  ·obtain⟨e2,g1,g2⟩:=h.tokdom _ _ _ hx;by_cases hkk:k'=k
   ·subst hkk;rw[hk]at g1;simp at g1;exact⟨e+1,by simp[hklt],aa⟩
   ·exact⟨e2,by rw[Kg (Ne.symm hkk)];exact g1,g2⟩
 ·intro k1 k2 e1 e2 p q q' he1 he2 g1 g2;simp only[Ctx.setTok,Ctx.pinAt]at g1 g2
  rcases jcQ he1 with⟨rfl,rfl,_⟩|⟨a1,a2⟩<;>rcases jcQ he2 with⟨rfl,rfl,_⟩|⟨b1,b2⟩
  ·rfl
  ·rw[Kj ⟨rfl,rfl⟩]at g1;cases g1;rw[Kh (by rintro⟨rfl,_⟩;exact b1 rfl)]at g2;exact absurd (h.tokinj k2 _ e2 e _ _ _ b2 hk g2 ht) b1
  ·rw[Kj ⟨rfl,rfl⟩]at g2;cases g2;rw[Kh (by rintro⟨rfl,_⟩;exact a1 rfl)]at g1;exact absurd (h.tokinj k1 _ e1 e _ _ _ a2 hk g1 ht) a1
  ·rw[Kh (by rintro⟨rfl,_⟩;exact a1 rfl)]at g1;rw[Kh (by rintro⟨rfl,_⟩;exact b1 rfl)]at g2;exact h.tokinj k1 k2 e1 e2 p q q' a2 b2 g1 g2
theorem jcX(h:WRel Γ U w){n:Nat}{p:V}{x:Value}{cs:List V}(hp:VRel Γ p x)(hc:jab U.heap n p=some cs){P:Program} :
  ∃a xs,x=.pointer (some a)/\(loadCells a n).run P w=.ok xs w/\LRel Γ cs xs/\(∀i,i<n->a.spot=none):=by
 unfold jab at hc;split at hc
 ·split at hc
  ·rename_i hn;simp at hc;subst hc;cases hp with
   | rptr cells a xs hq hr =>
    refine⟨a,((List.range n).map xs).toArray,rfl,?_,?_,λi hi=>(hq i aa).1⟩
    ·rcases Nat.eq_zero_or_pos n with h0|h0
     ·subst h0;rfl
     ·have hspot:=(hq 0 aa).1
      have:=run_loadCells_list (P:=P) w a ((List.range n).map xs) (λj v hj=>by
       rw[K4]at hj;obtain⟨hj1,hj2⟩:=hj;simp at hj1 hj2;subst hj2;have:=h.pins _ _ _ (hq j aa).2;obtain⟨ab,ao,asp⟩:=a;simp at hspot;subst hspot;simpa[jaU]using this)
      simpa using this
    ·refine LRel.mkList (by simp;omega) (λi a b => ?_);simp at a b ⊢;exact hr i aa
  ·simp at hc
 ·split at hc
  ·rename_i b off _ cs0 t hb;split at hc
   ·rename_i hn;simp at hc;subst hc;cases hp with
    | ptr _ _ c hblk =>
     obtain⟨ob,h1,h2,h3,h4⟩:=h.at hblk hb;cases ob<;>simp only[ORel]at h2;rename_i xs t' fr;obtain⟨rfl,rfl,hl,hr⟩:=h2;refine⟨_,((xs.toList.drop off).take n).toArray,rfl,?_,?_,λ_ _=>rfl⟩
     ·have:=run_loadCells_list (P:=P) w ⟨c,off,none⟩ ((xs.toList.drop off).take n) (λj v hj=>by
       rw[Jr]at hj;split at hj
       ·rw[X6]at hj;rw[jaU rfl];simp[World.cell?,h1];simpa using hj
       ·simp at hj)
      have hlen:((xs.toList.drop off).take n).length=n:=by simp;omega
      rw[hlen]at this;exact this
     ·refine LRel.mkList (by simp;omega) (λi a b => ?_);simp at a b ⊢;exact hr (off+i) aa aa
   ·simp at hc
  ·rename_i b off _ cs0 t hb;split at hc
   ·rename_i hn;simp at hc;subst hc;cases hp with
    | ptr _ _ c hblk =>
     obtain⟨ob,h1,h2,h3,h4⟩:=h.at hblk hb;cases ob<;>simp only[ORel]at h2;rename_i xs t' fr;obtain⟨rfl,_,hl,hr⟩:=h2;refine⟨_,((xs.toList.drop off).take n).toArray,rfl,?_,?_,λ_ _=>rfl⟩
     ·have:=run_loadCells_list (P:=P) w ⟨c,off,none⟩ ((xs.toList.drop off).take n) (λj v hj=>by
       rw[Jr]at hj;split at hj
       ·rw[X6]at hj;rw[jaU rfl];simp[World.cell?,h1];simpa using hj
       ·simp at hj)
      have hlen:((xs.toList.drop off).take n).length=n:=by simp;omega
      rw[hlen]at this;exact this
     ·refine LRel.mkList (by simp;omega) (λi a b => ?_);simp at a b ⊢;exact hr (off+i) aa aa
   ·simp at hc
  ·simp at hc
 ·simp at hc
theorem jkK(h:WRel Γ U w){E:Env}{t:TypeId}{p v:V}{x:Value}(hp:VRel Γ p x)(hc:jaF E U.heap t p=some v) :
  ∃y,(Instr.loadAt t x).run E.P w=.ok y w/\VRel Γ v y:=by
 unfold jaF at hc;simp only[Ko]at hc;obtain⟨g,hg,hc⟩:=hc;cases g with
 |true =>
  simp only[Ko,Ks]at hc;obtain⟨s,hs,cs,hcs,rfl⟩:=hc;obtain⟨a,xs,rfl,h1,h2,_⟩:=jcX h hp hcs (P:=E.P);exact⟨.agg xs,by simp[Instr.loadAt,Instr.sureAddr,loadVar,jfm hg,jaN hs,h1],VRel.mkAgg h2⟩
 | false =>
  simp only[Ko]at hc;obtain⟨cs,hcs,hv⟩:=hc;obtain⟨a,xs,rfl,h1,h2,h3⟩:=jcX h hp hcs (P:=E.P);obtain⟨y,hy,hr⟩:=h2.get? hv;refine⟨y,?_,hr⟩
  have h1':(loadCells a 1).run E.P w=((load a).run E.P w).andThen λv w'=>.ok #[v] w':=by
   simp only[loadCells,loadCellsFrom,Sem.run_bind,Sem.run_pure];have:a.add 0=a:=by simp[Addr.add]
   rw[this];rfl
  rw[h1']at h1
  have:(load a).run E.P w=.ok y w:=by
   cases hl:(load a).run E.P w with
   |ok v w1 =>
    rw[hl]at h1;simp only[Result.andThen_ok,Result.ok.injEq]at h1;obtain⟨rfl,rfl⟩:=h1;simp at hy;subst hy;rfl
   |halt hh w1=>rw[hl]at h1;simp at h1
  simp only[Instr.loadAt,Instr.sureAddr,loadVar,Sem.run_bind,Sem.run_pure,Result.andThen_ok,jfm hg,Kr,Kq,this]
end
end Go.Ab
