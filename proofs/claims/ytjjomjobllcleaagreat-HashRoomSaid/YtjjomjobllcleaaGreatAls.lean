/- Short names for laws of the library that are used often. -/
import Derived.Test.YtjjomjobllcleaaGreatProg
import Derived.Deep.Cut
import Derived.WalkSpells
import Derived.WalkLawsBesides
import Derived.BigQuiet
import Derived.StillTailTactics
import Derived.Lib.ConvBytes
import Derived.Deep.WholeRow
import Derived.Lib.Hide
set_option linter.all false
namespace Go.Proofs.YtjjomjobllcleaaGreat
open Go Go.RowKit
def Af(p:Prop):Prop:=p
theorem Af.o{p:Prop}(h:Af p):p:=h
theorem aa{p:Prop}(h:p):Af p:=h
abbrev Wo:=World
abbrev Va:=Value
def Qb:=@List.setIfInBounds_toArray
def Qc:=@List.set_cons_succ
def Qd:=@List.set_cons_zero
def Qe:=@List.getD_eq_getElem?_getD
def Qf:=@List.getElem?_eq_getElem
def Qg:=@Nat.le_refl
def Qh:=@Nat.le_trans
def Qi:=@List.mem_of_getElem?
def Qj:=@List.take_of_length_le
def Ql:=@List.getElem?_eq_some_iff
def Qm:=@List.mem_cons_self
def Qn:=@Nat.lt_of_lt_of_le
def Qo:=@List.length_append
def Qp:=@Nat.zero_le
def Qq:=@List.length_map
def Qr:=@Option.some.inj
def Qs:=@List.mem_cons_of_mem
def Qt:=@List.getElem?_map
def Qu:=@List.length_take
def Qv:=@Go.Exit.noGoto_ret
def Qx:=@List.mem_singleton
def Qy:=@Array.getElem?_eq_some_iff
def Qz:=@List.mem_append
def QA:=@List.mem_cons
def QB:=@List.mem_append_left
def QC:=@Nat.le_of_not_lt
def QD:=@List.mem_append_right
def QE:=@Nat.le_antisymm
def QF:=@List.length_cons
def QH:=@List.flatMap_cons
def QI:=@List.getElem_mem
def QJ:=@List.eq_of_mem_replicate
def QK:=@List.length_replicate
def QL:=@List.map_append
def QM:=@List.getElem?_append_right
def QN:=@List.getElem?_append_left
def QO:=@Nat.lt_of_le_of_lt
def QP:=@List.flatMap_append
def QQ:=@List.getElem?_eq_none
def QR:=@Nat.zero_add
def QT:=@List.mem_flatMap
def QU:=@List.mem_map
def QV:=@List.not_mem_nil
def QW:=@List.size_toArray
def QX:=@Nat.le_of_lt
def QY:=@List.append_assoc
def QZ:=@List.nil_append
def Q0:=@Nat.le_succ
def Q6:=@List.mem_of_mem_drop
def Za:=@List.mem_of_mem_take
def Zb:=@List.getElem?_drop
def Zd:=@List.drop_eq_getElem_cons
def Ze:=@List.getElem?_take
def Zf:=@List.eq_nil_of_length_eq_zero
def Zg:=@List.toArray_replicate
def Zh:=@Nat.min_eq_left
def Zi:=@List.append_nil
def Zj:=@List.map_congr_left
def Zk:=@List.drop_succ_cons
def Zl:=@List.drop_zero
def Zm:=@List.mem_range
def Zp:=@List.getElem?_mapIdx
def Zq:=@List.take_zero
def Zr:=@List.getElem?_replicate
def Zs:=@List.map_cons
def Zt:=@List.length_drop
def Zu:=@List.drop_eq_nil_of_le
def Zw:=@List.take_succ_cons
def Zy:=@List.length_set
def Zz:=@List.mem_or_eq_of_mem_set
def ZA:=@List.length_singleton
def ZB:=@List.set_append_right
def Xa:=@decide_eq_true
def Xb:=@List.any_eq_true
def Xc:=@beq_false_of_ne
def Xd:=@if_neg
def Xe:=@decide_eq_false
def Xf:=@Bool.eq_false_iff
def Xg:=@Nat.le_of_eq
def Xh:=@Int.natCast_nonneg
def Xi:=@Int.ofNat_lt
def Xj:=@Go.RowKit.Below.refl
def Xl:=@Go.RowKit.Below.heap_setCell
def Xm:=@Ne.symm
def Xn:=@Bool.false_eq_true
def Xo:=@if_pos
def Xp:=@Int.toNat_of_nonneg
def Xq:=@List.length_nil
def Xr:=@Go.World.ownsRow.lt
def Xt:=@Int.toNat_natCast
def Xu:=@Array.getElem?_eq_getElem
def Xv:=@Array.replicate_succ
def Xw:=@Array.replicate_zero
def Xx:=@List.push_toArray
def Xy:=@List.append_toArray
def Xz:=@Nat.zero_mul
def XB:=@Nat.add_assoc
def XC:=@Nat.add_zero
def XD:=@Bool.eq_iff_iff
def XE:=@Nat.sub_self
def XF:=@congrArg
def XG:=@Nat.eq_zero_or_pos
def XH:=@Go.Result.andThen_ok
def XI:=@Nat.lt_irrefl
def XJ:=@List.take_succ_eq_append_getElem
def XK:=@Nat.le_succ_of_le
def XL:=@Nat.lt_succ_self
def XM:=@Nat.le_add_right
def XN:=@Go.IntKind.wrap_i64
def XO:=@Nat.ne_of_gt
def XP:=@Nat.ne_of_lt
def XQ:=@of_decide_eq_true
def XR:=@Bool.and_eq_true
def XS:=@decide_eq_true_iff
def XT:=@List.all_eq_true
def XU:=@List.take_length
def XV:=@Nat.not_lt
def XW:=@List.take_append_drop
def XX:=@Go.block_lt_of_cell
def Qab:=@List.getElem?_of_mem
def Qac:=@Go.World.ownsRow.kept
def Qad:=@decide_eq_true_eq
def Qae:=@Nat.lt_or_ge
def Qaf:=@List.ext_getElem
def Qah:=@List.getElem_map
def Qai:=@List.countP_cons
def Qaj:=@List.cons_append
def Qak:=@List.foldl_cons
def Qal:=@List.ext_getElem?
def Qam:=@List.getElem?_range
def Qan:=@List.flatMap_singleton
def Qar:=@Go.bodyPost_ret
def Qas:=@List.replicate_append_replicate
def Qat:=@Go.wp_region_still_tail
def Qau:=@Go.World.cell?_of_block
def Qav:=@List.drop_drop
def Qaw:=@Go.Calls.mono
def Qax:=@Go.run_underlying
def Qay:=@Go.run_loadCells_list
def Qaz:=@Go.Sem.run_bind
def Qba:=@Nat.two_pow_pos
def Qbb:=@Nat.div_div_eq_div_mul
def Qbc:=@List.getElem?_set_self
def Qbd:=@List.range_succ
def Qbe:=@Nat.add_sub_cancel_left
def Qbf:=@List.flatten_cons
def Qbg:=@List.map_map
def Qbh:=@List.filter_append
def Qbi:=@Go.wpList_plain
def Qbj:=@List.getD_cons_succ
def Qbk:=@List.length_range
def Qbl:=@List.getElem?_set
def Qbm:=@List.count_append
def Qbn:=@Go.World.ownsRow_nil
def Qbo:=@of_decide_eq_false
def Qbp:=@List.getElem_range
def Qbq:=@beq_iff_eq
def Qbt:=@Nat.lt_trichotomy
def Qbu:=@List.getElem_of_mem
def Qbv:=@List.foldl_append
def Qbw:=@Nat.shiftRight_eq_div_pow
def Qby:=@List.length_filter_le
def Qbz:=@List.Nodup.length_le_of_subset
def Qca:=@Int.le_of_lt
def Qcc:=@Go.Sem.run_pure
def Qcd:=@List.countP_append
def Qce:=@List.all_cons
def Qcf:=@Nat.add_le_add
def Qch:=@Nat.pow_add
def Qci:=@Nat.mul_one
def Qcj:=@List.length_flatMap
def Qcl:=@Go.MapKept.run_getObj_map
def Qcm:=@Nat.add_comm
def Qcn:=@List.map_take
def Qco:=@List.Perm.refl
def Qcp:=@Int.le_refl
def Qcq:=@Go.World.cell?_setCell_other
def Qcr:=@Nat.pow_le_pow_right
def Qcs:=@List.set_append_left
def Qct:=@List.getElem?_set_ne
def Qcv:=@List.take_left'
def Qcw:=@List.take_add_one
def Qcx:=@List.replicate_zero
def Qcy:=@List.replicate_succ
def Qcz:=@List.getElem?_cons_succ
def Qda:=@Bool.true_and
def Qdb:=@Go.callsIn_wide
def Qdc:=@Nat.succ_le_succ
def Qdd:=@Nat.lt_of_not_le
def Qde:=@List.take_append_of_le_length
def Qdf:=@Go.wpStill_nil
def Qdg:=@List.map_replicate
def Qdh:=@Int.emod_lt_of_pos
def Qdi:=@Nat.mul_comm
def Qdj:=@Nat.min_le_left
def Qdk:=@Nat.div_lt_iff_lt_mul
def Qdl:=@List.drop_left'
def Qdm:=@List.countP_le_length
def Qdn:=@Int.natCast_pow
def Qdo:=@Int.emod_nonneg
def Qdp:=@Go.wpQuiet_nil
def Qdq:=@Go.info_parts
def Qds:=@List.take_take
def Qdt:=@List.mem_of_find?_eq_some
def Qdu:=@Option.getD_some
def Qdv:=@List.filter_cons
def Qdw:=@Int.natCast_ediv
def Qdx:=@if_true
def Qdy:=@Nat.pow_pos
def Qdz:=@Array.length_toList
def Qea:=@Go.heap_alloc_new
def Qec:=@Go.Calls.quiet_of_same
def Qee:=@List.find?_cons
def Qef:=@List.count_cons
def Qeg:=@Int.eq_ofNat_of_zero_le
def Qeh:=@List.countP_congr
def Qei:=@List.drop_left
def Qej:=@Go.RowKit.Below.heap_alloc
def Qek:=@Go.MapKept.run_setObj_map
def Qel:=@List.set_set
def Qem:=@List.map_set
def Qen:=@Go.cell_of_row
def Qeo:=@Go.Maps.keyOf_int_mk
def Qep:=@List.map_toArray
def Qeq:=@List.drop_append_of_le_length
def Qer:=@Bool.not_eq_true
def Qes:=@Nat.mul_le_mul_right
def Qet:=@List.take_set
def Qeu:=@List.countP_eq_length_filter
def Qev:=@Array.ext'
def Qew:=@Nat.not_lt_zero
def Qex:=@Nat.mul_le_mul_left
def Qey:=@Nat.min_def
def Qez:=@List.nodup_cons
def Qfa:=@List.drop_set_of_lt
def Qfc:=@Go.callsIn_of_wp
def Qfd:=@Array.toList_setIfInBounds
def Qfe:=@Go.run_equalIn_int
def Qfg:=@Nat.lt_trans
def Qfh:=@List.map_nil
def Qfi:=@List.find?_eq_none
def Qfj:=@List.take_left
def Qfk:=@List.nodup_nil
def Qfm:=@Nat.sub_le
def Qfn:=@Bool.not_eq_true'
def Qfq:=@Go.Maps.int_keyed
def Qfr:=@Nat.mul_div_cancel_left
def Qfs:=@Nat.add_mul
def Qft:=@Int.add_assoc
def Qfu:=@List.suffix_refl
def Qfv:=@List.flatMap_map
def Qfw:=@Nat.dvd_of_mod_eq_zero
def Qfx:=@Go.World.block_lt_of_cell?
def Qfz:=@Nat.succ_pos
def Qga:=@List.contains_iff_mem
def Qgb:=@List.all_nil
def Qgc:=@List.Perm.append_left
def Qgd:=@Bool.or_eq_true
def Qge:=@Array.getElem?_modify
def Qgf:=@if_false
def Qgg:=@Eq.trans
def Qgh:=@List.mem_of_mem_tail
def Qgi:=@List.count_le_length
def Qgj:=@List.Pairwise.filter
def Qgk:=@Go.wpOp_mono
def Qgl:=@Go.Lib.run_eql_slice_nil
def Qgm:=@Go.ready_mono
def Qgn:=@Int.pow_pos
def Qgo:=@Go.Region.noSelect_spec
def Qgp:=@Go.run_neq_struct
def Qgr:=@List.zip_cons_cons
def Qgs:=@List.sum_cons
def Qgt:=@List.map_drop
def Qgu:=@List.any_cons
def Qgv:=@Int.ofNat.inj
def Qgw:=@Int.lt_of_lt_of_le
def Qgx:=@Bool.and_true
def Qgy:=@Bool.and_self
def Qha:=@Go.setRow_heap
def Qhc:=@List.length_eq_countP_add_countP
def Qhd:=@Nat.mul_mod_right
def Qhe:=@Nat.le_of_succ_le
def Qhf:=@List.pairwise_map
def Qhg:=@List.find?_append
def Qhh:=@List.filter_congr
def Qhi:=@List.Sublist.refl
def Qhj:=@Int.emod_eq_of_lt
def Qhl:=@Go.wpIn_wide
def Qhm:=@Go.grownCap_le_maxLen
def Qhn:=@Go.World.size_setCell
def Qho:=@Int.mul_le_mul_of_nonneg_right
def Qhp:=@Int.lt_trans
def Qhs:=@List.range'_succ
def Qht:=@List.perm_middle
def Qhu:=@Go.run_storeCells_at
def Qhv:=@Array.getElem?_setIfInBounds
def Qhw:=@Go.setRow_other
def Qhx:=@Nat.mul_lt_mul_of_pos_right
def Qhy:=@List.sum_append
def Qhz:=@List.perm_append_comm_assoc
def Qia:=@List.mem_filter
def Qib:=@List.map_const'
def Qic:=@List.find?_some
def Qid:=@List.countP_map
def Qie:=@Int.ediv_nonneg
def Qif:=@Array.getD_eq_getD_getElem?
def Qih:=@Go.Region.free_spec
def Qii:=@Nat.shiftRight_xor_distrib
def Qij:=@List.takeWhile_cons_of_pos
def Qik:=@List.takeWhile_cons_of_neg
def Qil:=@Int.tmod_eq_emod_of_nonneg
def Qin:=@List.sublist_append_right
def Qio:=@List.pairwise_iff_getElem
def Qip:=@List.getElem?_zip_eq_some
def Qiq:=@Int.ofNat_tmod
def Qir:=@Classical.byContradiction
def Qis:=@Go.wpOp_step
def Qit:=@Go.wpIn_mono
def Qiv:=@List.set_eq_of_length_le
def Qiw:=@List.Nodup.mem_erase_iff
def Qix:=@Array.setIfInBounds_comm
def Qiy:=@or_false
def Qiz:=@Nat.lt_add_of_pos_right
def Qja:=@Nat.exists_eq_add_of_le
def Qjb:=@List.take_add
def Qjc:=@List.filter_append_perm
def Qjd:=@Bool.false_or
instance:Coe World Nat:=⟨fun w=>w.heap.size⟩
instance:Coe Nat Addr:=⟨fun b=>⟨b,0,none⟩⟩
instance:Coe Nat Value:=⟨fun b=>.pointer (some ⟨b,0,none⟩)⟩
instance:Coe Unit Value:=⟨fun _=>.slice none 0 0⟩
instance:Coe Bool Value:=⟨fun b=>.bool b⟩
abbrev Fr:=List Int
abbrev Ox:=List Value
abbrev FV:=Nat->Prop
abbrev GT:=List Nat
abbrev GB:=Option Addr
abbrev LC:=Array Oper
abbrev Fy:=TypeId
abbrev ST:=Program
abbrev Mp:=Exit->Act->World->Prop
abbrev Zvv:=Array Value
theorem Pd{a b c:World}(h:Below a.heap.size a b)(k:Below b.heap.size b c):Below a.heap.size a c:=h.trans (k.mono h.size)
theorem PP{P:Program}{n:FuncId}{g:Array Value}{w:World}{R K:Ending->World->Prop}{v:Value}(h:Calls P n g w R)(k:K (.returned v) w)(q:∀e w',R e w'->e= .returned v/\w'=w:=by rintro e w' ⟨rfl,rfl⟩;exact⟨rfl,rfl⟩):Calls P n g w K:=h.mono fun e w' x=>by obtain⟨rfl,rfl⟩:=q e w' x;exact k
theorem PF{P:Program}{n:FuncId}{g:Array Value}{w:World}{R K:Ending->World->Prop}{v:Value}{S:World->Prop}(h:Calls P n g w R)(k:∀w',S w'->K (.returned v) w')(q:∀e w',R e w'->e= .returned v/\S w':=by rintro e w' ⟨rfl,h⟩;exact⟨rfl,h⟩):Calls P n g w K:=h.mono fun e w' x=>by obtain⟨rfl,y⟩:=q e w' x;exact k _ y
theorem Pe{P:Program}{n:FuncId}{g:Array Value}{w:World}{R K:Ending->World->Prop}{v:Value}{S:World->Prop}(h:Calls P n g w R)(k:∀w',Af (S w')->K (.returned v) w')(q:∀e w',R e w'->e= .returned v/\S w':=by rintro e w' ⟨rfl,h⟩;exact⟨rfl,h⟩):Calls P n g w K:=PF h (fun w' y=>k w' (aa y)) q
theorem Pi{Q G:Prop}(k:Q)(h:Q->G:=by intro k;try simp only[Act.put,Qb,Qc,Qd];exact k):G:=h k
theorem Ne{Q G:Prop}(k:Q)(h:Q->G:=by intro k;try simp only[Act.put];exact k):G:=h k
abbrev ac(n:Int):Value:=.int .i64 n
abbrev io(n:Int):Value:=.int .u8 n
abbrev pK(n:Int):Value:=.int .u16 n
abbrev gc(n:Int):Value:=.int .u32 n
abbrev ip(n:Int):Value:=.int .u64 n
abbrev an(b o:Nat):Addr:=⟨b,o,none⟩
abbrev ol(b:Nat):Addr:=⟨b,0,none⟩
abbrev el(b o n c:Nat):Value:=.slice (some ⟨b,o,none⟩) n c
abbrev ro(b o:Nat):Value:=.pointer (some ⟨b,o,none⟩)
abbrev li(b:Nat):Value:=.pointer (some ⟨b,0,none⟩)
abbrev jp(W:World)(b i:Nat)(v:Value):Prop:=W.cell? ⟨b,i,none⟩=some v
abbrev am(a:Option Addr)(n c:Nat):Value:=.slice a n c
abbrev qr(W:World)(x:Array Value)(t:TypeId):World:=W.alloc (.cells x t)
abbrev rc(W:World)(b i:Nat)(v:Value):World:=W.setCell ⟨b,i,none⟩ v
theorem rY{P:Program}{n:FuncId}{g:Array Value}{w:World}{R K:Ending->World->Prop}{v:Value}{A B:World->Prop}(h:Calls P n g w R)(k:∀w',A w'->B w'->K (.returned v) w')(q:∀e w',R e w'->e= .returned v/\A w'/\B w':=by rintro e w' ⟨rfl,h⟩;exact⟨rfl,h⟩):Calls P n g w K:=h.mono fun e w' x=>by obtain⟨rfl,a,b⟩:=q e w' x;exact k _ a b
theorem tx{P:Program}{n:FuncId}{g:Array Value}{w:World}{R K:Ending->World->Prop}{A:Value->World->Prop}{B:Value->World->Prop}(h:Calls P n g w R)(k:∀v w',A v w'->B v w'->K (.returned v) w')(q:∀e w',R e w'->∃v,e= .returned v/\A v w'/\B v w':=by rintro e w' ⟨v,rfl,h⟩;exact⟨v,rfl,h⟩):Calls P n g w K:=h.mono fun e w' x=>by obtain⟨v,rfl,a0,a1⟩:=q e w' x;exact k _ _ a0 a1
def pm{p:Prop}(h:p:=by exact⟨rfl,rfl,rfl,by kernel_rfl,fun _ _ _ h=>h⟩):=h
theorem eXa{α:Sort _}(a:α):∃y,y=a:=⟨a,rfl⟩
theorem go{n:Nat}:n<=n:=Nat.le_refl n
theorem lm{n:Nat}:0<=n:=Nat.zero_le n
theorem pi{B:Nat}{w:World}:Below B w w:=Below.refl B w
abbrev iF(v:Value)(Q:World->Prop):Ending->World->Prop:=fun e w'=>e= .returned v/\Q w'
abbrev ci(w W:World):Prop:=Below w.heap.size w W
theorem qC{a b c:Prop}(i:a)(j:b)(k:c):Af a/\Af b/\Af c:=⟨i,j,k⟩
theorem rx{a b c d:Prop}(i:a)(j:b)(k:c)(l:d):Af a/\Af b/\Af c/\Af d:=⟨i,j,k,l⟩
theorem ul{a b c d e:Prop}(i:a)(j:b)(k:c)(l:d)(m:e):Af a/\Af b/\Af c/\Af d/\Af e:=⟨i,j,k,l,m⟩
theorem us{a b c d e f:Prop}(i:a)(j:b)(k:c)(l:d)(m:e)(n:f):Af a/\Af b/\Af c/\Af d/\Af e/\Af f:=⟨i,j,k,l,m,n⟩
theorem un{a b c d e f g:Prop}(i:a)(j:b)(k:c)(l:d)(m:e)(n:f)(o:g):Af a/\Af b/\Af c/\Af d/\Af e/\Af f/\Af g:=⟨i,j,k,l,m,n,o⟩
theorem ut{a b c d e f g h:Prop}(i:a)(j:b)(k:c)(l:d)(m:e)(n:f)(o:g)(q:h):Af a/\Af b/\Af c/\Af d/\Af e/\Af f/\Af g/\Af h:=⟨i,j,k,l,m,n,o,q⟩
theorem Af.p1{a b:Prop}(h:Af (a/\b)):a:=h.o.1
theorem Af.p2{a b c:Prop}(h:Af (a/\b/\c)):b:=h.o.2.1
theorem Af.q1{a b:Prop}(h:Af (a/\b)):b:=h.o.2
theorem Af.p3{a b c d:Prop}(h:Af (a/\b/\c/\d)):c:=h.o.2.2.1
theorem Af.q2{a b c:Prop}(h:Af (a/\b/\c)):c:=h.o.2.2
theorem Af.p4{a b c d e:Prop}(h:Af (a/\b/\c/\d/\e)):d:=h.o.2.2.2.1
theorem Af.q3{a b c d:Prop}(h:Af (a/\b/\c/\d)):d:=h.o.2.2.2
theorem Af.p5{a b c d e f:Prop}(h:Af (a/\b/\c/\d/\e/\f)):e:=h.o.2.2.2.2.1
theorem Af.q4{a b c d e:Prop}(h:Af (a/\b/\c/\d/\e)):e:=h.o.2.2.2.2
theorem Af.p6{a b c d e f g:Prop}(h:Af (a/\b/\c/\d/\e/\f/\g)):f:=h.o.2.2.2.2.2.1
theorem Af.q5{a b c d e f:Prop}(h:Af (a/\b/\c/\d/\e/\f)):f:=h.o.2.2.2.2.2
theorem Af.p7{a b c d e f g i:Prop}(h:Af (a/\b/\c/\d/\e/\f/\g/\i)):g:=h.o.2.2.2.2.2.2.1
theorem Af.q6{a b c d e f g:Prop}(h:Af (a/\b/\c/\d/\e/\f/\g)):g:=h.o.2.2.2.2.2.2
theorem Af.p8{a b c d e f g i j:Prop}(h:Af (a/\b/\c/\d/\e/\f/\g/\i/\j)):i:=h.o.2.2.2.2.2.2.2.1
theorem Af.q7{a b c d e f g i:Prop}(h:Af (a/\b/\c/\d/\e/\f/\g/\i)):i:=h.o.2.2.2.2.2.2.2
theorem Af.p9{a b c d e f g i j k:Prop}(h:Af (a/\b/\c/\d/\e/\f/\g/\i/\j/\k)):j:=h.o.2.2.2.2.2.2.2.2.1
theorem Af.q8{a b c d e f g i j:Prop}(h:Af (a/\b/\c/\d/\e/\f/\g/\i/\j)):j:=h.o.2.2.2.2.2.2.2.2
theorem Af.p10{a b c d e f g i j k l:Prop}(h:Af (a/\b/\c/\d/\e/\f/\g/\i/\j/\k/\l)):k:=h.o.2.2.2.2.2.2.2.2.2.1
theorem Af.q9{a b c d e f g i j k:Prop}(h:Af (a/\b/\c/\d/\e/\f/\g/\i/\j/\k)):k:=h.o.2.2.2.2.2.2.2.2.2
theorem Af.p11{a b c d e f g i j k l m:Prop}(h:Af (a/\b/\c/\d/\e/\f/\g/\i/\j/\k/\l/\m)):l:=h.o.2.2.2.2.2.2.2.2.2.2.1
theorem Af.p12{a b c d e f g i j k l m n:Prop}(h:Af (a/\b/\c/\d/\e/\f/\g/\i/\j/\k/\l/\m/\n)):m:=h.o.2.2.2.2.2.2.2.2.2.2.2.1
theorem Af.q11{a b c d e f g i j k l m:Prop}(h:Af (a/\b/\c/\d/\e/\f/\g/\i/\j/\k/\l/\m)):m:=h.o.2.2.2.2.2.2.2.2.2.2.2
theorem Af.p13{a b c d e f g i j k l m n o:Prop}(h:Af (a/\b/\c/\d/\e/\f/\g/\i/\j/\k/\l/\m/\n/\o)):n:=h.o.2.2.2.2.2.2.2.2.2.2.2.2.1
theorem Af.q12{a b c d e f g i j k l m n:Prop}(h:Af (a/\b/\c/\d/\e/\f/\g/\i/\j/\k/\l/\m/\n)):n:=h.o.2.2.2.2.2.2.2.2.2.2.2.2
variable{p:Prop}
def Mx(h:p:=by omega):=h
def KJ(h:p:=by kernel_rfl):=h
def Fd(h:p:=by decide):=h
def Sv(h:p:=by simp):=h
def vW(h:p:=by unfold wrap64;omega):=h
def wl(h:p:=by have:=Hn.o;omega):=h
def ww(h:p:=by unfold IntKind.wrap;simp[IntKind.signed,IntKind.bits];omega):=h
def xh(h:p:=by first|rfl|(rw[eu.o];rfl)):=h
def yL(h:p:=by first|rfl|(rw[Hu.o];rfl)):=h
def zM(h:p:=by go_simp):=h
def At(h:p:=by unfold wrap64;have:=Hn.o;omega):=h
def AI(h:p:=by simp[IntKind.wrap,IntKind.signed,IntKind.bits];omega):=h
def AN(h:p:=by unfold maxLen;decide):=h
def AT(h:p:=by have hlw:=Pd kL.p3 hW;have h1:=rI W s sh (am ya yn yc) (am Ae ne ce) ((eE.below (hW.mono kL.p3.size)).more hlw.size) ((wN.p1.below (hW.mono kL.p3.size)).more hlw.size) (Qh ec.2.2 Fd);rw[<-hR,<-HJ.p4,<-HJ.p5,<-Zo,<-JD] at h1;exact h1):=h
def By(h:p:=by have oI:=(hW.cell (XX z0)).trans z0;have mM:=(hW.cell (XX z1)).trans z1;have xw:=(hW.cell (XX z2)).trans z2;have hz3:=(hW.cell (XX z3)).trans z3;go_simp):=h
def BY(h:p:=by simp;omega):=h
def CC(h:p:=by first|exact al HX.p1|(rw[Hu.o];exact al HX.p1)):=h
def Do(h:p:=by unfold maxLen;omega):=h
def EQ(h:p:=by simpa using h):=h
def If(h:p:=by first|rfl|trivial):=h
def In(h:p:=by first|exact al HX.p1|(rw[Hw.o];exact al HX.p1)):=h
def IN(h:p:=by unfold aI;decide):=h
def IR(h:p:=by have h0_:=(hW.cell (XX x0)).trans x0;have h1_:=(hW.cell (XX x1)).trans x1;have h2_:=(hW.cell (XX x2)).trans x2;have h3_:=(hW.cell (XX x3')).trans x3';go_simp):=h
def IS(h:p:=by have hy0:=(hW.cell (XX y0)).trans y0;have Tr:=(hW.cell (XX y1)).trans y1;have hy2:=(hW.cell (XX y2)).trans y2;have hy3:=(hW.cell (XX y3)).trans y3;go_simp):=h
def IT(h:p:=by rw[HT.o];rfl):=h
def Jx(h:p:=by have:=Hm.o;omega):=h
def JQ(h:p:=by rw[aW];exact(aF _ _).alloc Sv _):=h
def LE(h:p:=by refine⟨⟨⟨_,_,_,hM7,((kL.p2.below (B6.o.mono kL.p3.size)).below b7).cut x,qe.o⟩,l6.trans b7,kL.p5⟩,(kL.p4.on B6.o).grown ti (λe=>kL.q6 (Qr e))⟩):=h
def LT(h:p:=by first|exact al HX.p2|(rw[Hu.o];exact al HX.p2)):=h
def Nm(h:p:=by first|rfl|(rw[u1.o];rfl)):=h
def No(h:p:=by injection hv):=h
def NE(h:p:=by rw[<-HD.o];show Ending.returned (.tuple #[ac x,ac (wrap64 ((dep:Int)+1 - E))])=_;rw[TH]):=h
def OF(h:p:=by have hb:=ar W [ac c1,ac c2] 3;exact zw _ _ c1 c2 (hb.j0) (hb.j1)):=h
def OW(h:p:=by first|exact JF (XF Addr.block e).symm|exact JF (XF Addr.block e)|exact fu (XF Addr.block e)|exact fu (XF Addr.block e).symm):=h
def Qa(h:p:=by show _=_;rw[HN.p5];unfold mr;rw[gV gone ao (k+1) (HQ.o none (js c _ (j+1) _ (HJ.p2.trans (km gd AF.p1 (λh=>N2 h.2)))))];rfl):=h
def Rd(h:p:=by have hx:=(hW.cell (XX e0)).trans e0;have hy:=(hW.cell (XX e1)).trans e1;go_simp):=h
def Rp(h:p:=by first|exact al Hn.p1|(rw[Hn.q1];exact al Hn.p1)):=h
def So(h:p:=by first|exact al HX.q2|(rw[Hu.o];exact al HX.q2)):=h
def UV(h:p:=by simp only[XN];omega):=h
def VE(h:p:=by show _=_;rw[HN.p5];unfold mr;rw[gV gone ao (k+1) (HQ.o none (js c _ (j+1) _ (HJ.p2.trans (qU gd hm))))];rfl):=h
def VX(h:p:=by unfold BS;obtain e|e:=hx<;>simp[e]):=h
def Wr(h:p:=by simpa using hk):=h
def WF(h:p:=by rw[BitVec.ofInt_natCast,BitVec.toNat_ofNat];exact Nat.mod_eq_of_lt Mx):=h
def WP(h:p:=by show _=_;rw[HC.o];exact all_oneCell_toArray (jI _)):=h
def YR(h:p:=by simp only[IntKind.wrap,IntKind.bits,IntKind.signed];simp;omega):=h
def zaa(h:p:=by first|exact al HX.p2|(rw[u1.o];exact al HX.p2)):=h
def zab(h:p:=by rw[aW];exact aF _ _):=h
def zac(h:p:=by rfl):=h
def zad(h:p:=by first|exact al Hk.o|(rw[Hu.o];exact al Hk.o)):=h
def zae(h:p:=by have e:yx=s.next:=JD;have:=ec.2.1;rw[<-e] at this;unfold bX at this;simp only[XN];omega):=h
def zaf(h:p:=by first|rfl|(rw[Hw.o];rfl)):=h
def zag(h:p:=by rw[hx,Qe,Qf bQ];rfl):=h
def zah(h:p:=by have hx:=(hW.cell (XX z0)).trans z0;have hy:=(hW.cell (XX z1)).trans z1;go_simp):=h
def zai(h:p:=by have hx:=(hW.cell (XX x0)).trans x0;have hy:=(hW.cell (XX x1)).trans x1;go_simp):=h
def zaj(h:p:=by injection Ea with q1;injection q1 with q1;injection q1 with q2 q3;exact⟨q2,q3⟩):=h
def zak(h:p:=by have:=H.o.ok.slot;unfold IntKind.wrap;simp[IntKind.signed,IntKind.bits];omega):=h
def zal(h:p:=by simpa using hi):=h
def zam(h:p:=by have h1:=fc;rw[k1] at h1;exact(List.cons.inj h1).1):=h
def zan(h:p:=by have h1:=fc;rw[k1] at h1;exact(List.cons.inj h1).2):=h
def zao(h:p:=by unfold IntKind.wrap;simp[IntKind.signed,IntKind.bits];unfold bX at TK;omega):=h
def zap(h:p:=by have:=HX.o;omega):=h
def zaq(h:p:=by show _=_;rw[QW,je.o];exact ka):=h
def zar(h:p:=by have:=hn.o;omega):=h
def zas(h:p:=by simpa using h0):=h
def zau(h:p:=by simpa using h1):=h
def zav(h:p:=by have:=dh.o;simp;omega):=h
def zaw(h:p:=by obtain hx|hx:=hx;exact Qn (HSd.o x hx) L.b.size;rw[<-HNw.o];exact hx.2):=h
def zax(h:p:=by first|exact al HX.p3|(rw[Hu.o];exact al HX.p3)):=h
def zay(h:p:=by rw[aY];exact aF _ _):=h
def zaz(h:p:=by have:=eV underlying95 rD (eC .u8 0) Fd 128 Fd w;rw[aW,hg];exact this):=h
def zaA(h:p:=by rw[Hn.o];exact dZ.o.ok):=h
def zaB(h:p:=by rw[Hn.o];exact dZ.o.gC):=h
def zaC(h:p:=by simpa using hl):=h
def zaD(h:p:=by have:=fq.o;omega):=h
def zaE(h:p:=by have hx:=(hW.cell (XX x0)).trans x0;go_simp):=h
def zaF(h:p:=by simp at h):=h
def zaG(h:p:=by rw[dP,QR];exact h.cell hj):=h
def zaH(h:p:=by first|rfl|(rw[Hn.q1];rfl)):=h
def zaI(h:p:=by rw[qpp,show(plX s).ag.length=s.ag.length from qp];exact hpl100):=h
def zaJ(h:p:=by rw[qpd,show(plX s).au.length=s.au.length from qd];exact hdl100):=h
def zaK(h:p:=by simp[intOf];omega):=h
def zaL(h:p:=by show aq _ _ _ _;rw[aY];exact ar w [_,_] _):=h
def zaM(h:p:=by have:=Hm.o;unfold wrap64;omega):=h
def zaN(h:p:=by show _=_;rw[aY];exact ar w _ _):=h
def zaO(h:p:=by subst hu;exact HS.o.step HX.o hd.o fq.p1 fq.q1 Fd (.inl rfl)):=h
def zaP(h:p:=by rw[<-Qch,show 8 - c.depth=8 - dep+(dep - c.depth) by omega]):=h
def zaQ(h:p:=by rw[cH,Hn.p1];exact go):=h
def zaR(h:p:=by simpa using he):=h
def zaS(h:p:=by rw[HT.o];simp[*]):=h
def zaT(h:p:=by have hx:=hW.2.j0;have hy:=hW.2.j1;have hz:=hW.2.j2;go_simp):=h
def zaU(h:p:=by simpa using hj):=h
def zaV(h:p:=by have:=Hb.p1;omega):=h
def zaW(h:p:=by decide+kernel):=h
def zaX(h:p:=by rw[aX.cM,e8,Xd Fd,Xd (by have:s.len=s.t.len:=rfl;omega)]):=h
def zaY(h:p:=by cases h):=h
def zaZ(h:p:=by have:=Hn.o;have:=Ue.o;omega):=h
def zbb(h:p:=by rw[<-EI.p2];have:=HI.p3;have h2:=HI.p12;rw[QF];omega):=h
def zbc(h:p:=by rw[hl];exact go):=h
def zbd(h:p:=by unfold BS;simp[e]):=h
def zbe(h:p:=by have:=Sl.bU o4;rw[Hk.p1] at this;rw[Hk.p1];exact this):=h
def zbf(h:p:=by rw[aY];simp):=h
def zbg(h:p:=by rw[aA l k x h1,Qbh,List.filter_eq_self.2 h3];simp[h2]):=h
def zbh(h:p:=by rw[HI.o.2.2.2.1.1,HI.o.2.2.2.1.2.1]):=h
def zbi(h:p:=by rw[dJ];exact below_drewN (Xj _ _) 1):=h
def zbj(h:p:=by rw[EI.q2,QF,<-HI.p12];exact HI.p3):=h
def zbk(h:p:=by rw[Zt];omega):=h
def zbl(h:p:=by rw[e]):=h
def zbm(h:p:=by rw[oG l j (by have:=Hm.o;omega)];have:=Hm.o;omega):=h
def zbn(h:p:=by rw[Qe,Qf (by have:=hn.o;omega)];exact hd.o _ (QI _)):=h
def zbo(h:p:=by rw[Qq];have:=Hn.o;omega):=h
def zbp(h:p:=by rw[<-HL.p2];exact HL.p4):=h
def zbq(h:p:=by simpa using hs):=h
def zbr(h:p:=by rw[cD];exact aF _ _):=h
def zbs(h:p:=by cases he):=h
def zbt(h:p:=by simp[Act.eval,Act.put]):=h
def zbu(h:p:=by have:=Hn.o;unfold maxLen;omega):=h
def zbv(h:p:=by first|rfl|(rw[Int.natCast_succ])):=h
def zbw(h:p:=by have:=kS.o;obtain rfl|rfl|rfl|rfl|hk:=hk<;>omega):=h
def zbx(h:p:=by rw[aY];exact(aF _ _).alloc Sv _):=h
def zby(h:p:=by rw[Qt,Qf (Hn.p1▸Hn.q1),<-bE _ _ 0,<-ha.o];rfl):=h
def zbz(h:p:=by rw[cE];exact(aF _ _).alloc Sv _):=h
def zbA(h:p:=by show _=_;rw[HC.o];exact bK qe.o):=h
def zbB(h:p:=by rw[Ho.o.dl,<-Hn.p1,<-xE.p2];have:=xE.q3;omega):=h
def zbC(h:p:=by have:=gX k rv e;have:=Hk.p2;show 1+_<=_;omega):=h
def zbD(h:p:=by rw[Hb.p1];decide):=h
def zbE(h:p:=by rintro(e|e);exact pZ e.symm;exact hhx e.symm):=h
def zbF(h:p:=by first|exact al HX.p3|(rw[u1.o];exact al HX.p3)):=h
def zbG(h:p:=by first|exact al Hq.q2|(rw[NG.o];exact al Hq.q2)):=h
def zbH(h:p:=by have:=HL.o;omega):=h
def zbI(h:p:=by have:=HL.o;unfold wrap64;omega):=h
def zbJ(h:p:=by show _=_;rw[aY];exact cL w _ _):=h
def zbK(h:p:=by have:=HM.o;omega):=h
def zbL(h:p:=by show aq _ _ _ _;rw[jc,EA];exact ar wr [_,_] _):=h
def zbM(h:p:=by rw[zG,new_room n Mx];exact needV_room h0 h1):=h
def zbN(h:p:=by rw[h] at hr;cases hr):=h
def zbO(h:p:=by simpa using h2):=h
def zbP(h:p:=by first|exact al bj.o|(rw[Hu1.o];exact al bj.o)):=h
def zbQ(h:p:=by have:=HD.o.ij;have:=Hn.p2;simp only[XN];omega):=h
def zbR(h:p:=by first|exact al NJ.o|(rw[Hwk.o];exact al NJ.o)):=h
def zbS(h:p:=by rw[XN];omega):=h
def zbT(h:p:=by rw[World.putObj_size];omega):=h
def zbU(h:p:=by rw[hb];omega):=h
def zbV(h:p:=by rw[Qx] at hb;subst hb;exact λe=>Hx.q1 (e▸ha)):=h
def zbW(h:p:=by have:=HD.o;have:=kS.o;omega):=h
def zbX(h:p:=by have:=kS.o;obtain rfl|rfl|rfl|hk:=hk<;>omega):=h
def zbY(h:p:=by have:=tk.o;have:=Hn.o;omega):=h
def zbZ(h:p:=by first|exact al Hj.o|(rw[El.o];exact al Hj.o)):=h
def zca(h:p:=by first|exact al HJ.p1|(rw[w4];exact al HJ.p1)):=h
def zcb(h:p:=by first|exact al hj.o|(rw[u1.o];exact al hj.o)):=h
def zcc(h:p:=by have hx:=(hW.cell (XX x3)).trans x3;go_simp):=h
def zcd(h:p:=by rw[Qo,Qo,Qu,je.o,Kf.o];show _+(2+_)=_;omega):=h
def zce(h:p:=by show s.room=s.room - 0;omega):=h
def zcf(h:p:=by unfold cJ;rw[jt,cX]):=h
def zcg(h:p:=by simpa using aJ):=h
def zch(h:p:=by have:=HP.o;omega):=h
def zci(h:p:=by have:=HB.o;have:=aJ.o;unfold wrap64;omega):=h
def zcj(h:p:=by first|rfl|(rw[Int.natCast_add,<-Qft];rfl)):=h
def zck(h:p:=by show aq _ _ _ _;rw[aW,eD];exact ar _ _ _):=h
def zcl(h:p:=by rw[show i+(k+1)=i+1+k by omega];exact m3):=h
def zcm(h:p:=by rw[hR]):=h
def zcn(h:p:=by rw[Qt,qZ];rfl):=h
def zco(h:p:=by have:=ec.n1;omega):=h
def zcp(h:p:=by rw[gY,ej,He.p1,He.q1,oS];exact vH W x e):=h
def zcq(h:p:=by rw[k5,<-bT] at pj;exact λh=>pj (Xi.1 h)):=h
def zcr(h:p:=by injection mQ):=h
def zcs(h:p:=by rw[<-HN.p2];exact HN.p4):=h
def zct(h:p:=by rw[<-HL.p1];exact HL.p3):=h
def zcu(h:p:=by unfold iy at hy;rw[QJ hy];exact⟨Fd,Fd⟩):=h
def zcv(h:p:=by show aq _ _ _ _;rw[aY];exact ar w _ _):=h
def zcw(h:p:=by simp[bK h,bK hk]):=h
def zcx(h:p:=by simp[bK h];omega):=h
def zcy(h:p:=by have:=h.gen;omega):=h
def zcz(h:p:=by unfold bI;decide):=h
def zcA(h:p:=by simp;have:=Ug.p2;omega):=h
def zcB(h:p:=by rw[zG];omega):=h
def zcC(h:p:=by first|rfl|(rw[El.o];rfl)):=h
def zcD(h:p:=by have:=(HE.o W3 py.o).1.ok.n0;omega):=h
def zcE(h:p:=by rw[r3,Qj (by rw[tC,Hn.p1];exact go)]):=h
def zcF(h:p:=by rw[eU];omega):=h
def zcG(h:p:=by rw[e];rfl):=h
def zcH(h:p:=by rw[hs']):=h
def zcI(h:p:=by show 2<=(aE.new n).len;rw[zG];omega):=h
def zcJ(h:p:=by show wrap64 _=_;unfold wrap64;omega):=h
def zcK(h:p:=by rw[Qu];omega):=h
def zcL(h:p:=by go_num):=h
def zcM(h:p:=by rw[hR];simp):=h
def zcN(h:p:=by rw[hs]):=h
def zcO(h:p:=by rw[<-tz,hg];exact h0):=h
def zcP(h:p:=by rw[dh];exact hc.ok.len):=h
def zcQ(h:p:=by rw[<-HN.p1];exact hk):=h
def zcR(h:p:=by rw[<-HN.p2];exact hk):=h
def zcS(h:p:=by rw[ha,Qt,Qf hi,bE _ _ _ hi];rfl):=h
def zcT(h:p:=by rw[BZ HX.p3.len,HX.p4];exact go):=h
def zcU(h:p:=by unfold BS;simp):=h
def zcV(h:p:=by simpa[Xu aJ] using h0):=h
def zcW(h:p:=by rw[oG l j Mx];have:=Hm.o;omega):=h
def zcX(h:p:=by simp at hk):=h
def zcY(h:p:=by rw[<-jZ.kp.len];exact jZ.kp.y7):=h
def zda(h:p:=by rw[Um.o];rfl):=h
def zdb(h:p:=by injection e1):=h
def zdc(h:p:=by intro k' ZT;cases ZT;exact go):=h
def zdd(h:p:=by have:s.len=s.t.len:=rfl;omega):=h
def zde(h:p:=by rw[<-Hl.p1];exact Qh Hl.p3 Fd):=h
def zdf(h:p:=by simpa using hx):=h
def zdg(h:p:=by rw[h];first|exact go|exact EZ.o):=h
def zdh(h:p:=by cases hp):=h
def zdi(h:p:=by rw[HN.p1];exact go):=h
def zdj(h:p:=by rw[HN.p2];exact go):=h
def zdk(h:p:=by simpa using e):=h
def zdl(h:p:=by rw[Qt,Qf hi,bE _ _ _ hi];rfl):=h
def zdm(h:p:=by have:=hL.o;have:=Hl9.o;omega):=h
def zdn(h:p:=by have:=Hn.o;have:=HnP.o;omega):=h
def zdo(h:p:=by intro k hk;cases hk;exact go):=h
def zdp(h:p:=by rw[AF.q2,h];exact HJ.p3.symm):=h
def zdq(h:p:=by rw[cE];exact aF _ _):=h
def zdr(h:p:=by rw[jc];exact aF _ _):=h
def zds(h:p:=by have:=Hn.p1;omega):=h
def zdt(h:p:=by have:=hS _ e;omega):=h
def zdu(h:p:=by rw[hn,<-jX,k2];rfl):=h
def zdv(h:p:=by unfold bX;decide):=h
def zdw(h:p:=by rw[jX];simp):=h
def zdx(h:p:=by simp[hx]):=h
def zdy(h:p:=by simp[hl]):=h
def zdz(h:p:=by simp[NX]):=h
def zdA(h:p:=by have:=HR.p1;omega):=h
def zdB(h:p:=by rw[aX.may,e8];rfl):=h
def zdC(h:p:=by rw[nK];exact uI):=h
def zdD(h:p:=by rw[hl];exact Fi):=h
def zdE(h:p:=by unfold bareC;simp):=h
def zdF(h:p:=by rw[ho.o];rfl):=h
def zdG(h:p:=by rw[hr.o];rfl):=h
def zdH(h:p:=by injection oQ):=h
def zdI(h:p:=by injection Na):=h
def zdJ(h:p:=by injection e2):=h
def zdK(h:p:=by simp[de];omega):=h
def zdL(h:p:=by have:=Qr e;omega):=h
def zdM(h:p:=by cases hx):=h
def zdN(h:p:=by simpa using b3):=h
def zdO(h:p:=by simpa using this):=h
def zdP(h:p:=by rw[aW];simp):=h
def zdQ(h:p:=by rw[<-fc,Qq]):=h
def zdR(h:p:=by rw[hb,h0]):=h
def zdS(h:p:=by rw[hW]):=h
def zdT(h:p:=by rw[q7,q8]):=h
def vl(h:p:=by go_ret;exact⟨rfl,rfl⟩):=h
def wn(h:p:=by first|exact al bj.o|(rw[eu.o];exact al bj.o)):=h
def zba(h:p:=by clear rh tG;go_quiet (fail);go_wp2_with fail;go_meet;exact⟨_,_,_,_,_,_,rfl,rfl,dU En.o (below_drewN pi _),HT.p7 _ _ _,⟨JT.o.on (below_drewN pi _),HT.p8 _ _ _,HT.q8⟩,below_drewN pi _⟩):=h
def zcZ(h:p:=by refine Qdp ?_;intro _ s9;obtain⟨⟨dq,mj⟩,iM⟩:=s9;subst iM;clear cA z1 z2 z3 z4 z5 z6;have b4:=below_regrown W3 dq mj;generalize Sort.grow (redrawn W3 dq) mj=W4 at*;have B4:=aa (Pd B3.o b4);clear b4;go_wp2;go_ret;exact⟨zdG,Pd B0.o B4.o⟩):=h
def zdU(h:p:=by go_wp2_with(((refine wpList_store_mid rfl 60 _ _ rfl w 0 (aP aV).toArray ?_ ?_ (dX R2.o ?_) ?_ fJ ?_);(·rfl);(·rfl);(·exact go);(·exact ka);go_frame));have C3:=cN (S:=λx=>x=w.heap.size) rfl (aP aV) 0 W2 (aG.refl _ W2);have R3:=R2.o.fill (vs:=aP aV) rfl;exact⟨_,cG rfl rfl (eZ (cs:=aP aV) rfl (λj v hj=>R3.cell hj)),B2.o.trans (C3.below B2.o.size (λx hx e=>Mx)),.inl ⟨JJ.o,rfl⟩⟩):=h
def zdV(h:p:=by go_in;go_wp2_with(first|(go_at_call 63;refine PP HB.o ?_)|(go_at_call 127;refine PP HH.o ?_));go_ret;exact⟨rfl,H.o,aG.refl _ _⟩):=h
def zdW(h:p:=by rintro e a3 W3 ⟨rfl,SI,mG,ZU⟩;have l3:=SI.same _ _ l2 rfl;have d3:=SI.same _ _ d2 rfl;refine⟨_,_,run_endRound none l3,rfl,⟨hIr _ _ _ _ _ ZU (Q0 _) l3 rfl,?_,(World.putObj_heap_other Mx).trans d3⟩,((tY b2 jU j8).trans mG).trans (tY (belowK_b (w:=w) go W3 _ _ _ (Q0 _) l3 rfl rfl) jU j8)⟩;rw[World.putObj_heap_same (Qy.1 l3).1,hR];rfl):=h
def zdX(h:p:=by first|exact al aJ.o|(rw[eu.o];exact al aJ.o)):=h
def zdY(h:p:=by have HQ:=aa (HE.o W2);rw[<-cE];clear cE d0 d1 jV HE;go_quiet ((go_at_call 66;with_reducible exact HQ.o _));go_wp2;go_ret2;exact⟨NE,below_drewN C2.o _⟩):=h
def zdZ(h:p:=by have iI:=Xc hc;generalize t.len=n at*;clear h jU hb g;go_in;go_wp2_with(first|(go_at_call 63;refine PP HB.o ?_)|(go_at_call 127;refine PP HH.o ?_)|(go_at_call 207;refine HS.o.mono ?_;rintro e W2 ⟨⟨v2,rfl⟩,t2,c2⟩;have T2:=aa t2;have C2:=aa c2;clear t2 c2));go_ret;exact⟨rfl,T2.o,C2.o⟩):=h
def zea(h:p:=by obtain⟨r1,r2⟩:=tN (u:= am none 0 0) (v:= ac 50) S1.o S2.o (XP (XL _));refine Qar (lQ rfl rfl rfl (oE r1) (lT r2)) rfl ?_;exact oN.o _ B2.o):=h
def zeb(h:p:=by constructor<;>first|(simp only[hl,rf];first|exact hx|exact hS.lp|exact hS.ld|exact hS.pV|exact hS.jb|exact hS.n0|exact hS.n1)|exact hx|exact hg|exact hh|exact AR|exact ZO|exact hS.SX|exact hS.SW|exact hS.lp|exact hS.ld|exact hS.pV|exact hS.jb|exact hS.n0|exact hS.n1):=h
def zec(h:p:=by go_in;go_wp2_with(at_builtin;refine Lib.wpList_append_run _ rfl _ _ _ _ rfl _ _ rfl rfl _ _ (Bu.o _) ?_);go_ret;refine⟨_,rfl,⟨rfl,.inr ⟨_,cc,_,rfl,go,Qea w.drew _,lm,hle.o,?_,rfl⟩⟩,below_drewN (pi.alloc go _) 1⟩;simp[size_zeroCells];omega):=h
def zed(h:p:=by exact⟨rfl,H.o,aG.refl _ _⟩):=h
def zee(h:p:=by go_ret;refine⟨rfl,?_,kh _ _ _ _ |>.mono λx _ e=> .inl e⟩;rw[Hes.o];exact HS.o):=h
def zef(h:p:=by simp only[Act.put,Qb,Qc,Qd]):=h
def zei(h:p:=by obtain⟨y,e1,e2,e3⟩:=Maps.keyOf_int_inv underlying3 h;exact⟨y,e3,e1⟩):=h
def zej(h:p:=by refine⟨⟨_,rfl⟩,pre,⟨HR.p2,λx=>⟨HR.p3 x,λhx=> ?_⟩⟩,HR.q4⟩;obtain⟨c,hc⟩:=Option.isSome_iff_exists.1 hx;have ec:=HD.o.dom x c hc;have h1:=HR.p4 x ec;rw[Fe.o,hx] at h1;simpa using h1):=h
def zek(h:p:=by rcases h.2 with⟨rfl,_⟩|⟨g,cap,cur,rfl,_⟩<;>exact⟨_,_,_,rfl⟩):=h
def zel(h:p:=by simp[Lit.wf,IntKind.min,IntKind.max,IntKind.signed,IntKind.bits];omega):=h
def zem(h:p:=by exact⟨KeepsOthers.of_grownBy C7.o.rE EM.o,C7.o,mZ.o _ S7.o C7.o⟩):=h
def zen(h:p:=by exact⟨⟨k+1,zaf,HX.p1,cU.p1.step H10.o Yi.o,cU.q1.trans (Yi.o.mono λ_ _ e=> .inl e)⟩,In⟩):=h
def zep(h:p:=by have S1:=aa (R0.o.on B1.o);obtain⟨y0,y1,y2⟩:=ra S1.o;have f1:=S1.o.free;go_wp2;refine Qar (cG rfl rfl (gU (S1.o.JY (io 0) (gc 0) ()))) rfl ?_;exact oN.o _ B1.o):=h
def zeq(h:p:=by rw[aW,hR];exact run_enterLoop_outer _ _ _ _ _):=h
def zer(h:p:=by refine Qar (v:= .agg T) ?_ rfl ⟨rfl,NN.o⟩;refine rQ (a:=ol rb) rfl rfl ?_;have h1:=On.o;simpa[Instr.loadAt,Instr.sureAddr,Result.andThen] using h1):=h
def zet(h:p:=by simp[Target.leads] at tD;subst tD;exact hFg):=h
def zeu(h:p:=by show(w.heap.modify g _)[g]? =_;rw[Xu zcg,Array.getElem_modify_self,h'];simp):=h
def zev(h:p:=by go_ret;exact⟨_,rfl,fF.p1,fF.q1⟩):=h
def zew(h:p:=by go_in;go_wp2_with(go_at_call 74;refine HI.o.mono ?_;rintro e W2 ⟨⟨i,rfl,hi⟩,b2⟩;have B2:=aa b2;clear b2);go_ret;exact⟨rfl,B2.o⟩):=h
def zex(h:p:=by refine bD KJ ?_ _;go_wp2_with fail;go_meet;exact⟨g13,⟨cj,am Ab nb cb,am As ns Bd,Eu⟩,rfl,rfl,rfl,X15,⟨TY.1,TY.2.1,TZ.p⟩,L15⟩):=h
def zey(h:p:=by obtain⟨n,hn⟩:∃n,l.length=n+1:=⟨l.length - 1,Mx⟩;rw[hn] at h';obtain⟨g,c,e⟩:=ownsRow_succ h';exact⟨g,c,by rw[e,hn]⟩):=h
def zez(h:p:=by go_wp2_with fail;refine Qar (cG rfl rfl (gU (S1.o.JY (io 0) (gc 0) ()))) rfl ?_;exact⟨iG (Pd NH.o B9.o) go,.inl ⟨hd.o,rfl⟩⟩):=h
def zeA(h:p:=by clear hL tail;go_wp2_with(go_at_call 12;refine HAw.o.mono ?_;rintro e' W9 ⟨rfl,b9⟩);go_ret;exact⟨rfl,Ht.o _ _ ⟨rfl,b9⟩⟩):=h
def zeB(h:p:=by unfold IntKind.wrap;simp only[IntKind.signed,IntKind.bits];simp;omega):=h
def zeC(h:p:=by unfold Oper.wp;rw[<-hx] at h;simp[execOp,h,Result.andThen];exact hk):=h
def zeD(h:p:=by obtain⟨b,o,c,hv,hc,hm,hr⟩:=Sl.row h h0;refine⟨b,o,c,hv,hc,hm,hr.1,λj hj=>hr.2 j _ ?_⟩;rw[Qt,Qf hj,Qe,Qf hj];rfl):=h
def zeE(h:p:=by have h4:(Instr.sureAddr (ro b o)).run prog w= .ok (an b o) w:=rfl;simp[Instr.loadAt,loadVar,hl,h2,h3,h4,Result.andThen]):=h
def zeF(h:p:=by refine⟨[],_,_,anL.o,Qfk,λx hx=>zdM,λx hx=> ?_,HJ0.o⟩;rw[show Maps.has D (.int .i64 x)=_ from HD.o.has x hx];simp):=h
def zeG(h:p:=by have q:=((sr.o.box.on NT.o).on B4.o).alloc (.cells #[fv] 97);exact q.grown G5.o (λe=>aq.not_row q Fd K4.o.1.1 e.symm)):=h
def zeH(h:p:=by exact⟨1+1,If,Fd,zaA,zaB,dZ.o.res,dZ.o.low,dZ.o.b0,dZ.o.b1⟩):=h
def zeI(h:p:=by exact⟨0+1,If,Fd,zaA,zaB,dZ.o.res,dZ.o.low,dZ.o.b0,dZ.o.b1⟩):=h
def zeJ(h:p:=by clear cA hM6 sC hM7 ti l6 b7;go_wp2_with fail;exact⟨⟨j+1,by first|rfl|(rw[w4];rfl),HJ.p1,HF.p1,HF.q1⟩,zca⟩):=h
def zeK(h:p:=by rw[hp] at he;exact⟨none,_,he,kV _ _ go (hIr _ _ _ _ _ i (Q0 _) l rfl) ((World.putObj_heap_other Mx).trans d)⟩):=h
def zeL(h:p:=by unfold part;simp only[Qaz,h2,XH,Xn,Qgf];rfl):=h
def zeM(h:p:=by simp only[results,h];simp only[Qif] at hp;simp[hp,hl,asAddr]):=h
def zeN(h:p:=by exact⟨Sv,.inl ⟨_,_,rfl,run_takeDeferred k1,⟨_,cG rfl rfl (k2 _).1,(k2 _).2,.inl ⟨JJ.o,rfl⟩⟩⟩⟩):=h
def zeO(h:p:=by rw[gB.o,xD.o];go_wp2_with fail;go_ret;exact⟨rfl,B1.o⟩):=h
def zeP(h:p:=by simp only[List.getElem?_cons_zero,Option.some.injEq] at h;subst h;rw[Xz,QR,QH,QN (by show j<3;exact hj)]):=h
def zeQ(h:p:=by rw[p2.same.2.2.1,p1.same.2.2.1] at q1;rw[p2.same.2.2.2.1,p1.same.2.2.2.1] at q2;exact λh=>h.elim q1 q2):=h
def zeR(h:p:=by simp[Instr.loadAt,loadVar,h1,h2,h3,h4,Result.andThen]):=h
def zeS(h:p:=by obtain⟨r1,r2,-⟩:=root_eff h1 (i:=i) Mx (b:=0) (Or.inl rfl);exact⟨_,r1,by rw[r2.len,h2]⟩):=h
def zeT(h:p:=by go_ret;exact⟨_,rfl,O5.low xF.o.size,Pd xF.o L.b⟩):=h
def zeU(h:p:=by rw[hx] at hi;cases hi):=h
def zeV(h:p:=by refine wpAnyH_done KJ ?_ _;go_wp2_with fail;go_meet;exact⟨rfl,M7.o,Y7.o,X7.o,S7.o,L7.o⟩):=h
def zeW(h:p:=by refine tN ?_;refine uD KJ ?_ _;go_wp2_with fail;go_meet;exact⟨_,_,_,rfl,rfl,HF.o _ rfl⟩):=h
def zeX(h:p:=by go_in;go_wp2_with(go_at_call 33;refine PP HM.o ?_);go_ret2;exact⟨rfl,HT_.o,aG.refl _ _⟩):=h
def zeY(h:p:=by rw[e1,e2];by_cases c1:0<t.get b<;>by_cases c2:0<t.mE b<;>by_cases c3:0<n<;>simp[c1,c2,c3]):=h
def zeZ(h:p:=by go_ret;exact⟨_,rfl,mZ.p1,mZ.q1⟩):=h
def zfa(h:p:=by clear eJ;go_in;go_wp2;go_ret;exact⟨rfl,B0.o⟩):=h
def zfb(h:p:=by have:x'∈l.take k:=Qi (i:=k') (by rw[Ze,Xo h];exact g1);rw[h3 x' this] at g2;cases g2):=h
def zfc(h:p:=by clear h hl hi pk hq hs hp hn tA jb;go_in;go_wp2;go_ret;exact⟨⟨_,rfl,HS.o⟩,rfl⟩):=h
def zfd(h:p:=by have:x∈l.take k' :=Qi (i:=k) (by rw[Ze,Xo h];exact h1);rw[g3 x this] at h2;cases h2):=h
def zfe(h:p:=by show _=false;rw[Xf];intro ha;obtain⟨p,hp,h5⟩:=Xb.1 ha;rw[bm p hp] at h5;cases h5):=h
def zff(h:p:=by rw[Qbg,show(Value.bool∘λ_:Int=>false)=λ_=>Value.bool false from rfl,Qib];exact h):=h
def zfg(h:p:=by go_ret;exact⟨rfl,Pd mV.o B2.o⟩):=h
def zfh(h:p:=by exact((C3.o.mono λx _ e=>TL x e).trans (aG.aZ hW)).trans (MH.mono λx _ e=>Bb x e)):=h
def zfi(h:p:=by unfold aR at h;split at h<;>omega):=h
def zfj(h:p:=by simp[execOp,h,Result.andThen];exact hK _ _ hk):=h
def zfk(h:p:=by rw[<-tz,hg] at h1;have:=hatr b (QB _ (Qi h1.1));rw[e2.len,e1.len];exact .inr this):=h
def zfl(h:p:=by exact⟨0,rfl,lm,cQ _ _ _ _,pi⟩):=h
def zfm(h:p:=by rw[Qe (l:=replicate _ _),Zr] at this;refine absurd ?_ h.1;rw[this];split<;>rfl):=h
def zfn(h:p:=by unfold jz at h1;rw[<-HI.o.2.2.2.1.2.2.1,<-HI.o.2.2.2.1.2.2.2] at h1;exact h1):=h
def zfo(h:p:=by subst JK;clear HI hj;go_wp2_with fail;exact⟨⟨k+1,Nm,HX.p2,HE.o⟩,zaa⟩):=h
def zfp(h:p:=by simp only[results,h];simp only[Qif] at hp;simp[Result.andThen,hp,hl,asAddr]):=h
def zfq(h:p:=by rw[<-Qem] at h1;exact h1.aQ zdS):=h
def zfr(h:p:=by rcases h.row.2 with⟨rfl,_⟩|⟨g,cap,cur,rfl,_⟩<;>exact⟨_,_,_,rfl⟩):=h
def zfs(h:p:=by refine tN ?_;refine uD KJ ?_ _;go_wp2_with fail;go_meet;exact⟨rfl,h5⟩):=h
def zft(h:p:=by go_wp2;go_ret;exact⟨zdF,B1.o.trans (((aF W1 _).mono B1.o.size).drew)⟩):=h
def zfu(h:p:=by go_ret;exact⟨⟨-1,rfl,HTf.o⟩,HL.o⟩):=h
def zfv(h:p:=by exact⟨Qcp 0,(by decide:(0:Int)<4096)⟩):=h
def zfw(h:p:=by have:=kS.o;have:=hW.size;omega):=h
def zfx(h:p:=by exact⟨0,rfl,⟨lm,λe he=>zbs,pi⟩⟩):=h
def zfy(h:p:=by subst hx;clear hz;go_in;go_wp2;go_ret;exact⟨_,rfl,Qbn _ _ _ _,pi⟩):=h
def zfz(h:p:=by rw[this];simp[Qib];omega):=h
def zfA(h:p:=by rw[q4,q5] at hb;rw[iO];have:=(h2z _ (Qz.2 hb)).2;rw[Xt] at this;omega):=h
def zfB(h:p:=by exact⟨0,rfl,lm,rj.o⟩):=h
def zfC(h:p:=by refine uD KJ ?_ _;go_wp2_with fail;go_meet;exact⟨_,Wd,rfl,HN.o⟩):=h
def zfD(h:p:=by intro c e h h9;exact absurd h.ok.d8 Mx):=h
def zfE(h:p:=by unfold wrap64 IntKind.wrap;simp[IntKind.signed,IntKind.bits];omega):=h
def zfF(h:p:=by unfold set Iy;simp only;split<;>split<;>(try split)<;>simp<;>omega):=h
def zfG(h:p:=by rw[hW,Xl _ _ _ _ (λe=>hn (.inr e)),Xl _ _ _ _ (λe=>hn (.inl e))]):=h
def zfH(h:p:=by simp[loadVar,hl,h2,h3,Result.andThen]):=h
def zfI(h:p:=by simp[loadVar,h1,h2,h3,Result.andThen]):=h
def zfJ(h:p:=by go_in;go_wp2;go_ret;exact⟨rfl,pi⟩):=h
def zfK(h:p:=by show w<=(w.heap.modify g _).size;rw[Array.size_modify];exact go):=h
def zfL(h:p:=by rw[q4,q5];exact λi j y hi hj=>G.nd i j y hi hj (hz y (Qi hi))):=h
def zfM(h:p:=by simp[invoke,go_sem,eg]):=h
def zfN(h:p:=by refine⟨k+1,xh,bj.o,?_,px.o⟩;rw[aA _ _ _ Hx.p1];exact JW.o):=h
def zfO(h:p:=by have h:=xx.symm;rw[XR] at h;exact⟨h.1,by simpa using h.2⟩):=h
def zfP(h:p:=by exact ha.mono λr w' ⟨r1,r2,r3⟩=>⟨r1,⟨h.1,r2⟩,r3⟩):=h
def zfQ(h:p:=by unfold Bl NX;simp only;rw[countP_not_false,countP_not_false]):=h
def zfS(h:p:=by rw[Hn.o,<-HC.o];exact dZ.o.gC.fill (by rw[je.o,bK dZ.o.ok])):=h
def zfT(h:p:=by exact⟨rfl,H.p1.on bb,aG.aZ bb⟩):=h
def zfU(h:p:=by rw[TB,getD_set_eq _ _ hi];exact⟨Mx,by rw[Xt];exact bw⟩):=h
def zfW(h:p:=by rw[show((at_+s:Nat):Int)=(at_:Int)+s by omega];exact K3.o):=h
def zfX(h:p:=by go_ret;exact⟨IT,HL.o⟩):=h
def zfY(h:p:=by rw[Zs,Qdv,Xo zas,Zs];exact(z.perm.cons _).trans Qht.symm):=h
def zfZ(h:p:=by obtain⟨i,-,rfl⟩:=QU.1 hw;exact lY IN (counts61 _ _)):=h
def zga(h:p:=by exact⟨⟨k+1,yL,by rw[<-Hm1.o,Hr.o],If,Hk.o⟩,zad⟩):=h
def zgb(h:p:=by exact⟨0,rfl,⟨lm,rfl,pi⟩⟩):=h
def zgc(h:p:=by exact absurd hj (Vn agN (getD_both hun) m j (hT j h)).2):=h
def zgd(h:p:=by rw[aX.put,h1.live,Xd Fd,Xd (by rw[jy.1];decide),Xo Mx]):=h
def zge(h:p:=by intro i cl;exact(ih (i+1) _).trans (comeOne_len _ _ _)):=h
def zgf(h:p:=by simp[IntKind.wrap,IntKind.bits,IntKind.signed];omega):=h
def zgg(h:p:=by go_wp2;go_ret;exact⟨rfl,HK3.o _ rfl rfl rfl rfl⟩):=h
end Go.Proofs.YtjjomjobllcleaaGreat
