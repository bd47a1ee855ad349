/- Short names for laws of the library that are used often. -/
import Derived.Below
import Derived.Laws.AppendOwn
import Derived.Laws.BitsLemmas
import Derived.Laws.Rows
import Derived.Laws.Sem
import Derived.Lib.Hide
import Derived.WalkMore
set_option linter.unusedVariables false
namespace Go.Proofs.YthgdhacopamklaaGreat
open Go Go.RowKit
def Af(p:Prop):Prop:=p
theorem Af.o{p:Prop}(h:Af p):p:=h
theorem aa{p:Prop}(h:p):Af p:=h
abbrev Wo:=World
abbrev Va:=Value
theorem Qb.{u_1}:∀{α:Type u_1} (l:List α) (i:Nat) (a:α),l.toArray.setIfInBounds i a=(l.set i a).toArray:=@List.setIfInBounds_toArray.{u_1}
theorem Qc.{u_1}:∀{α:Type u_1} {x:α} {xs:List α} {i:Nat} {a:α},(x::xs).set (i+1) a=x::xs.set i a:=@List.set_cons_succ.{u_1}
theorem Qd.{u_1}:∀{α:Type u_1} {x:α} {xs:List α} {a:α},(x::xs).set 0 a=a::xs:=@List.set_cons_zero.{u_1}
theorem Qe.{u_1}:∀{α:Type u_1} {l:List α} {i:Nat} {a:α},l.getD i a=l[i]?.getD a:=@List.getD_eq_getElem?_getD.{u_1}
theorem Qf.{u_1}:∀{α:Type u_1} {l:List α} {i:Nat} (h:i<l.length),l[i]? =some l[i]:=@List.getElem?_eq_getElem.{u_1}
theorem Qg:∀(n:Nat),n≤n:=@Nat.le_refl
theorem Qh:∀{n m k:Nat},n≤m→m≤k→n≤k:=@Nat.le_trans
theorem Qi.{u_1}:∀{α:Type u_1} {l:List α} {i:Nat} {a:α},l[i]? =some a→a∈l:=@List.mem_of_getElem?.{u_1}
theorem Qj.{u_1}:∀{α:Type u_1} {i:Nat} {l:List α},l.length≤i→List.take i l=l:=@List.take_of_length_le.{u_1}
theorem Ql.{u_1}:∀{α:Type u_1} {i:Nat} {a:α} {l:List α},l[i]? =some a↔∃h,l[i]=a:=@List.getElem?_eq_some_iff.{u_1}
theorem Qm.{u_1}:∀{α:Type u_1} {a:α} {l:List α},a∈a::l:=@List.mem_cons_self.{u_1}
theorem Qn:∀{n m k:Nat},n<m→m≤k→n<k:=@Nat.lt_of_lt_of_le
theorem Qo.{u}:∀{α:Type u} {«as» bs:List α},(«as»++bs).length=«as».length+bs.length:=@List.length_append.{u}
theorem Qp:∀(n:Nat),0≤n:=@Nat.zero_le
theorem Qq.{u_1,u_2}:∀{α:Type u_1} {β:Type u_2} {«as»:List α} (f:α→β),(List.map f «as»).length=«as».length:=@List.length_map.{u_1,u_2}
theorem Qr.{u}:∀{α:Type u} {val val_1:α},some val=some val_1→val=val_1:=@Option.some.inj.{u}
theorem Qs.{u_1}:∀{α:Type u_1} (y:α) {a:α} {l:List α},a∈l→a∈y::l:=@List.mem_cons_of_mem.{u_1}
theorem Qt.{u_1,u_2}:∀{α:Type u_1} {β:Type u_2} {f:α→β} {l:List α} {i:Nat},(List.map f l)[i]? =Option.map f l[i]?:=@List.getElem?_map.{u_1,u_2}
theorem Qu.{u_1}:∀{α:Type u_1} {i:Nat} {l:List α},(List.take i l).length=min i l.length:=@List.length_take.{u_1}
theorem Qv:∀{Q:Exit→Act→World→Prop} {a:Act} {w:World},Exit.noGoto Q Exit.ret a w=Q Exit.ret a w:=@Go.Exit.noGoto_ret
theorem Qx.{u_1}:∀{α:Type u_1} {a b:α},a∈[b]↔a=b:=@List.mem_singleton.{u_1}
theorem Qy.{u_1}:∀{α:Type u_1} {i:Nat} {b:α} {xs:Array α},xs[i]? =some b↔∃h,xs[i]=b:=@Array.getElem?_eq_some_iff.{u_1}
theorem Qz.{u_1}:∀{α:Type u_1} {a:α} {s t:List α},a∈s++t↔a∈s∨a∈t:=@List.mem_append.{u_1}
theorem QA.{u_1}:∀{α:Type u_1} {b:α} {l:List α} {a:α},a∈b::l↔a=b∨a∈l:=@List.mem_cons.{u_1}
theorem QB.{u}:∀{α:Type u} {a:α} {«as»:List α} (bs:List α),a∈«as»→a∈«as»++bs:=@List.mem_append_left.{u}
theorem QC:∀{a b:Nat},¬a<b→b≤a:=@Nat.le_of_not_lt
theorem QD.{u}:∀{α:Type u} {b:α} («as»:List α) {bs:List α},b∈bs→b∈«as»++bs:=@List.mem_append_right.{u}
theorem QE:∀{n m:Nat},n≤m→m≤n→n=m:=@Nat.le_antisymm
theorem QF.{u}:∀{α:Type u} {a:α} {«as»:List α},(a::«as»).length=«as».length+1:=@List.length_cons.{u}
theorem QH.{u,v}:∀{α:Type u} {β:Type v} {x:α} {xs:List α} {f:α→List β},List.flatMap f (x::xs)=f x++List.flatMap f xs:=@List.flatMap_cons.{u,v}
theorem QI.{u_1}:∀{α:Type u_1} {l:List α} {n:Nat} (h:n<l.length),l[n]∈l:=@List.getElem_mem.{u_1}
theorem QJ.{u_1}:∀{α:Type u_1} {a b:α} {n:Nat},b∈List.replicate n a→b=a:=@List.eq_of_mem_replicate.{u_1}
theorem QK.{u}:∀{α:Type u} {n:Nat} {a:α},(List.replicate n a).length=n:=@List.length_replicate.{u}
theorem QL.{u_1,u_2}:∀{α:Type u_1} {β:Type u_2} {f:α→β} {l₁ l₂:List α},List.map f (l₁++l₂)=List.map f l₁++List.map f l₂:=@List.map_append.{u_1,u_2}
theorem QM.{u_1}:∀{α:Type u_1} {l₁ l₂:List α} {i:Nat},l₁.length≤i→(l₁++l₂)[i]? =l₂[i - l₁.length]?:=@List.getElem?_append_right.{u_1}
theorem QN.{u_1}:∀{α:Type u_1} {l₁ l₂:List α} {i:Nat},i<l₁.length→(l₁++l₂)[i]? =l₁[i]?:=@List.getElem?_append_left.{u_1}
theorem QO:∀{n m k:Nat},n≤m→m<k→n<k:=@Nat.lt_of_le_of_lt
theorem QP.{u,v}:∀{α:Type u} {β:Type v} {xs ys:List α} {f:α→List β},List.flatMap f (xs++ys)=List.flatMap f xs++List.flatMap f ys:=@List.flatMap_append.{u,v}
theorem QQ.{u_1}:∀{α:Type u_1} {l:List α} {i:Nat},l.length≤i→l[i]? =none:=@List.getElem?_eq_none.{u_1}
theorem QR:∀(n:Nat),0+n=n:=@Nat.zero_add
theorem QT.{u_1,u_2}:∀{α:Type u_1} {β:Type u_2} {f:α→List β} {b:β} {l:List α},b∈List.flatMap f l↔∃a,a∈l∧b∈f a:=@List.mem_flatMap.{u_1,u_2}
theorem QU.{u_1,u_2}:∀{α:Type u_1} {β:Type u_2} {b:β} {f:α→β} {l:List α},b∈List.map f l↔∃a,a∈l∧f a=b:=@List.mem_map.{u_1,u_2}
theorem QV.{u_1}:∀{α:Type u_1} {a:α},¬a∈[]:=@List.not_mem_nil.{u_1}
theorem QW.{u}:∀{α:Type u} {«as»:List α},«as».toArray.size=«as».length:=@List.size_toArray.{u}
theorem QX:∀{n m:Nat},n<m→n≤m:=@Nat.le_of_lt
theorem QY.{u}:∀{α:Type u} («as» bs cs:List α),«as»++bs++cs=«as»++(bs++cs):=@List.append_assoc.{u}
theorem QZ.{u}:∀{α:Type u} («as»:List α),[]++«as»=«as»:=@List.nil_append.{u}
theorem Q0:∀(n:Nat),n≤n.succ:=@Nat.le_succ
theorem Q6.{u_1}:∀{α:Type u_1} {a:α} {i:Nat} {l:List α},a∈List.drop i l→a∈l:=@List.mem_of_mem_drop.{u_1}
theorem Za.{u_1}:∀{α:Type u_1} {i:Nat} {a:α} {l:List α},a∈List.take i l→a∈l:=@List.mem_of_mem_take.{u_1}
theorem Zb.{u_1}:∀{α:Type u_1} {xs:List α} {i j:Nat},(List.drop i xs)[j]? =xs[i+j]?:=@List.getElem?_drop.{u_1}
theorem Zd.{u_1}:∀{α:Type u_1} {i:Nat} {l:List α} (h:i<l.length),List.drop i l=l[i]::List.drop (i+1) l:=@List.drop_eq_getElem_cons.{u_1}
theorem Ze.{u_1}:∀{α:Type u_1} {l:List α} {i j:Nat},(List.take i l)[j]? =if j<i then l[j]? else none:=@List.getElem?_take.{u_1}
theorem Zf.{u_1}:∀{α:Type u_1} {l:List α},l.length=0→l=[]:=@List.eq_nil_of_length_eq_zero.{u_1}
theorem Zg.{u_1}:∀{α:Type u_1} (n:Nat) (v:α),(List.replicate n v).toArray=Array.replicate n v:=@List.toArray_replicate.{u_1}
theorem Zh:∀{a b:Nat},a≤b→min a b=a:=@Nat.min_eq_left
theorem Zi.{u}:∀{α:Type u} («as»:List α),«as»++[]=«as»:=@List.append_nil.{u}
theorem Zj.{u_1,u_2}:∀{α:Type u_1} {l:List α} {α_1:Type u_2} {f g:α→α_1},(∀(a:α),a∈l→f a=g a)→List.map f l=List.map g l:=@List.map_congr_left.{u_1,u_2}
theorem Zk.{u}:∀{α:Type u} {a:α} {l:List α} {i:Nat},List.drop (i+1) (a::l)=List.drop i l:=@List.drop_succ_cons.{u}
theorem Zl.{u}:∀{α:Type u} {l:List α},List.drop 0 l=l:=@List.drop_zero.{u}
theorem Zm:∀{m n:Nat},m∈List.range n↔m<n:=@List.mem_range
theorem Zp.{u_1,u_2}:∀{α:Type u_1} {α_1:Type u_2} {f:Nat→α→α_1} {l:List α} {i:Nat},(List.mapIdx f l)[i]? =Option.map (f i) l[i]?:=@List.getElem?_mapIdx.{u_1,u_2}
theorem Zq.{u}:∀{α:Type u} {l:List α},List.take 0 l=[]:=@List.take_zero.{u}
theorem Zr.{u_1}:∀{n:Nat} {α:Type u_1} {a:α} {i:Nat},(List.replicate n a)[i]? =if i<n then some a else none:=@List.getElem?_replicate.{u_1}
theorem Zs.{u,v}:∀{α:Type u} {β:Type v} {f:α→β} {a:α} {l:List α},List.map f (a::l)=f a::List.map f l:=@List.map_cons.{u,v}
theorem Zt.{u_1}:∀{α:Type u_1} {i:Nat} {l:List α},(List.drop i l).length=l.length - i:=@List.length_drop.{u_1}
theorem Zu.{u}:∀{α:Type u} {«as»:List α} {i:Nat},«as».length≤i→List.drop i «as»=[]:=@List.drop_eq_nil_of_le.{u}
theorem Zv:∀(w:World) (a:Addr) (u:Value) (k:Nat),k≠a.block→(w.setCell a u).heap[k]? =w.heap[k]?:=@Go.RowKit.Below.heap_setCell
theorem Zw.{u}:∀{α:Type u} {a:α} {«as»:List α} {i:Nat},List.take (i+1) (a::«as»)=a::List.take i «as»:=@List.take_succ_cons.{u}
theorem Zy.{u}:∀{α:Type u} {«as»:List α} {i:Nat} {a:α},(«as».set i a).length=«as».length:=@List.length_set.{u}
theorem Zz.{u_1}:∀{α:Type u_1} {l:List α} {i:Nat} {a b:α},a∈l.set i b→a∈l∨a=b:=@List.mem_or_eq_of_mem_set.{u_1}
theorem ZA.{u}:∀{α:Type u} {a:α},[a].length=1:=@List.length_singleton.{u}
theorem ZB.{u_1}:∀{α:Type u_1} {s t:List α} (i:Nat) (x:α),s.length≤i→(s++t).set i x=s++t.set (i - s.length) x:=@List.set_append_right.{u_1}
theorem Xa:∀{p:Prop} [inst:Decidable p],p→decide p=true:=@decide_eq_true
theorem Xb.{u_1}:∀{α:Type u_1} {p:α→Bool} {l:List α},l.any p=true↔∃x,x∈l∧p x=true:=@List.any_eq_true.{u_1}
theorem Xc.{u_1}:∀{α:Type u_1} [inst:BEq α] [LawfulBEq α] {a b:α},a≠b→(a==b)=false:=@beq_false_of_ne.{u_1}
theorem Xd.{u}:∀{c:Prop} {h:Decidable c},¬c→∀{α:Sort u} {t e:α},(if c then t else e)=e:=@if_neg.{u}
theorem Xe:∀{p:Prop} [inst:Decidable p],¬p→decide p=false:=@decide_eq_false
theorem Xf:∀{b:Bool},b=false↔b≠true:=@Bool.eq_false_iff
theorem Xg:∀{n m:Nat},n=m→n≤m:=@Nat.le_of_eq
theorem Xh:∀(n:Nat),(0:Int)≤n:=@Int.natCast_nonneg
theorem Xi:∀{n m:Nat},(n:Int)<m↔n<m:=@Int.ofNat_lt
theorem Xj:∀(B:Nat) (w:World),Below B w w:=@Go.RowKit.Below.refl
theorem Xl:∀(w:World) (a:Addr) (u:Value) (k:Nat),k≠a.block→(w.setCell a u).heap[k]? =w.heap[k]?:=@Go.RowKit.Below.heap_setCell
theorem Xm.{u}:∀{α:Sort u} {a b:α},a≠b→b≠a:=@Ne.symm.{u}
theorem Xn:(false=true)=False:=@Bool.false_eq_true
theorem Xo.{u}:∀{c:Prop} {h:Decidable c},c→∀{α:Sort u} {t e:α},(if c then t else e)=t:=@if_pos.{u}
theorem Xp:∀{a:Int},0≤a→↑a.toNat=a:=@Int.toNat_of_nonneg
theorem Xq.{u}:∀{α:Type u},([]:List α).length=0:=@List.length_nil.{u}
theorem Xr:∀{w:World} {base:Nat} {e:TypeId} {size:Nat} {v:Value} {n:Nat} {xs:List Value},w.ownsRow base e size v n xs→∀(k:Nat),v.ownBlock=some k→base≤k∧k<w.heap.size:=@Go.World.ownsRow.lt
theorem Xt:∀(n:Nat),(n:Int).toNat=n:=@Int.toNat_natCast
theorem Xu.{u_1}:∀{α:Type u_1} {xs:Array α} {i:Nat} (h:i<xs.size),xs[i]? =some xs[i]:=@Array.getElem?_eq_getElem.{u_1}
theorem Xv.{u_1}:∀{n:Nat} {α:Type u_1} {a:α},Array.replicate (n+1) a=(Array.replicate n a).push a:=@Array.replicate_succ.{u_1}
theorem Xw.{u_1}:∀{α:Type u_1} {a:α},Array.replicate 0 a= #[]:=@Array.replicate_zero.{u_1}
theorem Xx.{u_1}:∀{α:Type u_1} (l:List α) (a:α),l.toArray.push a=(l++[a]).toArray:=@List.push_toArray.{u_1}
theorem Xy.{u_1}:∀{α:Type u_1} (l₁ l₂:List α),l₁.toArray++l₂.toArray=(l₁++l₂).toArray:=@List.append_toArray.{u_1}
theorem Xz:∀(n:Nat),0*n=0:=@Nat.zero_mul
theorem XB:∀(n m k:Nat),n+m+k=n+(m+k):=@Nat.add_assoc
theorem XC:∀(n:Nat),n+0=n:=@Nat.add_zero
theorem XD:∀{a b:Bool},a=b↔(a=true↔b=true):=@Bool.eq_iff_iff
theorem XE:∀(n:Nat),n - n=0:=@Nat.sub_self
theorem XF.{u,v}:∀{α:Sort u} {β:Sort v} {a₁ a₂:α} (f:α→β),a₁=a₂→f a₁=f a₂:=@congrArg.{u,v}
theorem XG:∀(n:Nat),n=0∨n>0:=@Nat.eq_zero_or_pos
theorem XH:∀{α β:Type} (a:α) (w:World) (f:α→World→Result β),(Result.ok a w).andThen f=f a w:=@Go.Result.andThen_ok
theorem XI:∀(n:Nat),¬n<n:=@Nat.lt_irrefl
theorem XJ.{u_1}:∀{α:Type u_1} {i:Nat} {l:List α} (h:i<l.length),List.take (i+1) l=List.take i l++[l[i]]:=@List.take_succ_eq_append_getElem.{u_1}
theorem XK:∀{n m:Nat},n≤m→n≤m.succ:=@Nat.le_succ_of_le
theorem XL:∀(n:Nat),n<n.succ:=@Nat.lt_succ_self
theorem XM:∀(n k:Nat),n≤n+k:=@Nat.le_add_right
theorem XN:∀(n:Int),IntKind.i64.wrap n=(n+9223372036854775808)%18446744073709551616 - 9223372036854775808:=@Go.IntKind.wrap_i64
theorem XO:∀{a b:Nat},b<a→a≠b:=@Nat.ne_of_gt
theorem XP:∀{a b:Nat},a<b→a≠b:=@Nat.ne_of_lt
theorem XQ:∀{p:Prop} [inst:Decidable p],decide p=true→p:=@of_decide_eq_true
theorem XR:∀(a b:Bool),((a&&b)=true)=(a=true∧b=true):=@Bool.and_eq_true
theorem XS:∀{p:Prop} [inst:Decidable p],decide p=true↔p:=@decide_eq_true_iff
theorem XT.{u_1}:∀{α:Type u_1} {p:α→Bool} {l:List α},l.all p=true↔∀(x:α),x∈l→p x=true:=@List.all_eq_true.{u_1}
theorem XU.{u_1}:∀{α:Type u_1} {l:List α},List.take l.length l=l:=@List.take_length.{u_1}
theorem XV:∀{a b:Nat},¬a<b↔b≤a:=@Nat.not_lt
theorem XW.{u_1}:∀{α:Type u_1} (i:Nat) (l:List α),List.take i l++List.drop i l=l:=@List.take_append_drop.{u_1}
theorem XX:∀{w:World} {a:Addr} {v:Value},w.cell? a=some v→a.block<w.heap.size:=@Go.block_lt_of_cell
end Go.Proofs.YthgdhacopamklaaGreat
