/-
  The types and functions of this seat, as the small logic of memory takes them.
-/
import Derived.Test.YtcdgibkbbcekhaaDoorRD2
import Derived.Test.YtcdgibkbbcekhaaDoorProg
import Derived.Maps.RangeRun
set_option linter.unusedVariables false
set_option linter.unusedSimpArgs false
set_option linter.unusedSectionVars false
namespace Go.Proofs
open Go.Sl
instance:TPlain Tryd.prog 3:=⟨Tryd.isAgg3⟩
instance:TSize Tryd.prog 3 1:=⟨Tryd.sizeOf3⟩
instance:TZero Tryd.prog 3 [.int .i64 0]:=⟨fun w=>⟨_,Tryd.zeroValue3 w,rfl⟩⟩
instance:TIntK Tryd.prog 3 .i64:=⟨Tryd.underlying3⟩
instance:TBool Tryd.prog 4:=⟨Tryd.underlying4⟩
instance:TPlain Tryd.prog 5:=⟨Tryd.isAgg5⟩
instance:TSize Tryd.prog 5 1:=⟨Tryd.sizeOf5⟩
instance:TIntK Tryd.prog 5 .u8:=⟨Tryd.underlying5⟩
instance:TString Tryd.prog 9:=⟨Tryd.underlying9⟩
instance:TPlain Tryd.prog 22:=⟨Tryd.isAgg22⟩
instance:TSize Tryd.prog 22 1:=⟨Tryd.sizeOf22⟩
instance:TSlice Tryd.prog 22 3 1:=⟨Tryd.underlying22,Tryd.sizeOf3⟩
instance:TElem Tryd.prog 22 3 (.int .i64 0) 1 8:=⟨Tryd.underlying22,by kernel_rfl,rfl,by decide⟩
instance:TAgg Tryd.prog 24 2:=⟨Tryd.isAgg24,Tryd.sizeOf24⟩
instance:TSize Tryd.prog 24 2:=⟨Tryd.sizeOf24⟩
instance:TZero Tryd.prog 24 [.int .i64 0,.slice none 0 0]:=⟨fun w=>⟨_,Tryd.zeroValue24 w,rfl⟩⟩
instance:TField Tryd.prog 24 0 0:=field_mk (n:=1) Tryd.runUnderlying24 rfl Tryd.sizeOf3 (by decide) rfl
instance:TField Tryd.prog 24 1 1:=field_mk (n:=1) Tryd.runUnderlying24 rfl Tryd.sizeOf22 (by decide) rfl
instance:TBuild Tryd.prog 24 [.int .i64 0,.slice none 0 0] [(0,1),(1,1)]:=⟨fun parts out w h=>by simp [Instr.build,Tryd.zeroValue24,Tryd.runUnderlying24,Tryd.sizeOf22,Tryd.sizeOf3,Value.cells,h]⟩
instance:TPlain Tryd.prog 27:=⟨Tryd.isAgg27⟩
instance:TSize Tryd.prog 27 1:=⟨Tryd.sizeOf27⟩
instance:TSlice Tryd.prog 27 50 5:=⟨Tryd.underlying27,Tryd.sizeOf50⟩
instance:TZero Tryd.prog 27 [.slice none 0 0]:=⟨fun w=>⟨_,Tryd.zeroValue27 w,rfl⟩⟩
instance:TElem Tryd.prog 27 50 (.agg #[.int .i64 0,.int .i64 0,.slice none 0 0,.int .i64 0,.int .i64 0]) 5 56:=⟨Tryd.underlying27,by kernel_rfl,rfl,by decide⟩
instance:TPlain Tryd.prog 28:=⟨Tryd.isAgg28⟩
instance:TSize Tryd.prog 28 1:=⟨Tryd.sizeOf28⟩
instance:TZero Tryd.prog 28 [.int .i64 0]:=⟨fun w=>⟨_,Tryd.zeroValue28 w,rfl⟩⟩
instance:TAgg Tryd.prog 47 2:=⟨Tryd.isAgg47,Tryd.sizeOf47⟩
instance:TSize Tryd.prog 47 2:=⟨Tryd.sizeOf47⟩
instance:TZero Tryd.prog 47 [.int .i64 0,.int .i64 0]:=⟨fun w=>⟨_,Tryd.zeroValue47 w,rfl⟩⟩
instance:TField Tryd.prog 47 0 0:=field_mk (n:=1) Tryd.runUnderlying47 rfl Tryd.sizeOf3 (by decide) rfl
instance:TField Tryd.prog 47 1 1:=field_mk (n:=1) Tryd.runUnderlying47 rfl Tryd.sizeOf3 (by decide) rfl
instance:TBuild Tryd.prog 47 [.int .i64 0,.int .i64 0] [(0,1),(1,1)]:=⟨fun parts out w h=>by simp [Instr.build,Tryd.zeroValue47,Tryd.runUnderlying47,Tryd.sizeOf3,Value.cells,h]⟩
instance:TEq2 Tryd.prog 47:=⟨fun a b c d w=>by simp [go_sem,Op.equal,Op.maxDepth];by_cases h1:a=c<;>by_cases h2:b=d<;>simp [h1,h2],by kernel_rfl⟩
instance:TPlain Tryd.prog 48:=⟨Tryd.isAgg48⟩
instance:TSize Tryd.prog 48 1:=⟨Tryd.sizeOf48⟩
instance:TSlice Tryd.prog 48 47 2:=⟨Tryd.underlying48,Tryd.sizeOf47⟩
instance:TElem Tryd.prog 48 47 (.agg #[.int .i64 0,.int .i64 0]) 2 16:=⟨Tryd.underlying48,by kernel_rfl,rfl,by decide⟩
instance:TAgg Tryd.prog 50 5:=⟨Tryd.isAgg50,Tryd.sizeOf50⟩
instance:TSize Tryd.prog 50 5:=⟨Tryd.sizeOf50⟩
instance:TZero Tryd.prog 50 [.int .i64 0,.int .i64 0,.slice none 0 0,.int .i64 0,.int .i64 0]:=⟨fun w=>⟨_,Tryd.zeroValue50 w,rfl⟩⟩
instance:TField Tryd.prog 50 0 0:=field_mk (n:=1) Tryd.runUnderlying50 rfl Tryd.sizeOf3 (by decide) rfl
instance:TField Tryd.prog 50 1 1:=field_mk (n:=1) Tryd.runUnderlying50 rfl Tryd.sizeOf3 (by decide) rfl
instance:TField Tryd.prog 50 2 2:=field_mk (n:=1) Tryd.runUnderlying50 rfl Tryd.sizeOf48 (by decide) rfl
instance:TField Tryd.prog 50 3 3:=field_mk (n:=1) Tryd.runUnderlying50 rfl Tryd.sizeOf3 (by decide) rfl
instance:TField Tryd.prog 50 4 4:=field_mk (n:=1) Tryd.runUnderlying50 rfl Tryd.sizeOf3 (by decide) rfl
instance:TBuild Tryd.prog 50 [.int .i64 0,.int .i64 0,.slice none 0 0,.int .i64 0,.int .i64 0] [(0,1),(1,1),(2,1),(3,1),(4,1)]:=⟨fun parts out w h=>by simp [Instr.build,Tryd.zeroValue50,Tryd.runUnderlying50,Tryd.sizeOf3,Tryd.sizeOf48,Value.cells,h]⟩
instance:TPlain Tryd.prog 64:=⟨Tryd.isAgg64⟩
instance:TSlice Tryd.prog 71 5 1:=⟨Tryd.underlying71,Tryd.sizeOf5⟩
instance:TText Tryd.prog 71 5:=⟨Tryd.underlying71,Tryd.underlying5⟩
instance:TElem Tryd.prog 71 5 (.int .u8 0) 1 1:=⟨Tryd.underlying71,by kernel_rfl,rfl,by decide⟩
instance:TSlice Tryd.prog 73 75 1:=⟨Tryd.underlying73,Tryd.sizeOf75⟩
instance:TElem Tryd.prog 73 75 (.int .u32 0) 1 4:=⟨Tryd.underlying73,by kernel_rfl,rfl,by decide⟩
instance:TPlain Tryd.prog 75:=⟨Tryd.isAgg75⟩
instance:TSize Tryd.prog 75 1:=⟨Tryd.sizeOf75⟩
instance:TIntK Tryd.prog 75 .u32:=⟨Tryd.underlying75⟩
instance:TSlice Tryd.prog 83 27 1:=⟨Tryd.underlying83,Tryd.sizeOf27⟩
instance:TElem Tryd.prog 83 27 (.slice none 0 0) 1 24:=⟨Tryd.underlying83,by kernel_rfl,rfl,by decide⟩
instance:TIntK Tryd.prog 88 .u64:=⟨Tryd.underlying88⟩
instance:TIntK Tryd.prog 96 .u64:=⟨Tryd.underlying96⟩
instance:TPlain Tryd.prog 132:=⟨Tryd.isAgg132⟩
instance:TSize Tryd.prog 132 1:=⟨Tryd.sizeOf132⟩
instance:TZero Tryd.prog 132 [.int .u64 0]:=⟨fun w=>⟨_,Tryd.zeroValue132 w,rfl⟩⟩
instance:TIntK Tryd.prog 132 .u64:=⟨Tryd.underlying132⟩
instance:Fun Tryd.prog 4:=⟨Tryd.call4⟩
instance:Fun Tryd.prog 5:=⟨Tryd.call5⟩
instance:Fun Tryd.prog 6:=⟨Tryd.call6⟩
instance:Fun Tryd.prog 7:=⟨Tryd.call7⟩
instance:Fun Tryd.prog 8:=⟨Tryd.call8⟩
instance:Fun Tryd.prog 9:=⟨Tryd.call9⟩
instance:Fun Tryd.prog 10:=⟨Tryd.call10⟩
instance:Fun Tryd.prog 11:=⟨Tryd.call11⟩
instance:Fun Tryd.prog 12:=⟨Tryd.call12⟩
instance:Fun Tryd.prog 13:=⟨Tryd.call13⟩
instance:Fun Tryd.prog 14:=⟨Tryd.call14⟩
instance:Fun Tryd.prog 15:=⟨Tryd.call15⟩
instance:Fun Tryd.prog 16:=⟨Tryd.call16⟩
instance:Fun Tryd.prog 17:=⟨Tryd.call17⟩
instance:Fun Tryd.prog 18:=⟨Tryd.call18⟩
instance:Fun Tryd.prog 19:=⟨Tryd.call19⟩
instance:Fun Tryd.prog 20:=⟨Tryd.call20⟩
instance:Fun Tryd.prog 21:=⟨Tryd.call21⟩
instance:Fun Tryd.prog 22:=⟨Tryd.call22⟩
instance:Fun Tryd.prog 23:=⟨Tryd.call23⟩
instance:Fun Tryd.prog 24:=⟨Tryd.call24⟩
instance:Fun Tryd.prog 25:=⟨Tryd.call25⟩
instance:Fun Tryd.prog 26:=⟨Tryd.call26⟩
instance:Fun Tryd.prog 27:=⟨Tryd.call27⟩
instance:Fun Tryd.prog 28:=⟨Tryd.call28⟩
instance:Fun Tryd.prog 29:=⟨Tryd.call29⟩
instance:Fun Tryd.prog 30:=⟨Tryd.call30⟩
instance:Fun Tryd.prog 31:=⟨Tryd.call31⟩
instance:Fun Tryd.prog 32:=⟨Tryd.call32⟩
instance:Fun Tryd.prog 33:=⟨Tryd.call33⟩
instance:Fun Tryd.prog 34:=⟨Tryd.call34⟩
instance:Fun Tryd.prog 35:=⟨Tryd.call35⟩
instance:Fun Tryd.prog 36:=⟨Tryd.call36⟩
instance:Fun Tryd.prog 37:=⟨Tryd.call37⟩
instance:Fun Tryd.prog 38:=⟨Tryd.call38⟩
instance:Fun Tryd.prog 39:=⟨Tryd.call39⟩
instance:Fun Tryd.prog 40:=⟨Tryd.call40⟩
instance:Fun Tryd.prog 41:=⟨Tryd.call41⟩
instance:Fun Tryd.prog 42:=⟨Tryd.call42⟩
instance:Fun Tryd.prog 43:=⟨Tryd.call43⟩
instance:Fun Tryd.prog 44:=⟨Tryd.call44⟩
instance:Fun Tryd.prog 45:=⟨Tryd.call45⟩
instance:Fun Tryd.prog 46:=⟨Tryd.call46⟩
instance:Fun Tryd.prog 47:=⟨Tryd.call47⟩
instance:Fun Tryd.prog 48:=⟨Tryd.call48⟩
instance:Fun Tryd.prog 49:=⟨Tryd.call49⟩
instance:Fun Tryd.prog 50:=⟨Tryd.call50⟩
instance:Fun Tryd.prog 51:=⟨Tryd.call51⟩
instance:Fun Tryd.prog 52:=⟨Tryd.call52⟩
instance:Fun Tryd.prog 53:=⟨Tryd.call53⟩
instance:Fun Tryd.prog 54:=⟨Tryd.call54⟩
instance:Fun Tryd.prog 55:=⟨Tryd.call55⟩
instance:Fun Tryd.prog 56:=⟨Tryd.call56⟩
instance:Fun Tryd.prog 57:=⟨Tryd.call57⟩
instance:Fun Tryd.prog 58:=⟨Tryd.call58⟩
instance:Fun Tryd.prog 59:=⟨Tryd.call59⟩
instance:Fun Tryd.prog 60:=⟨Tryd.call60⟩
instance:Fun Tryd.prog 61:=⟨Tryd.call61⟩
instance:Fun Tryd.prog 62:=⟨Tryd.call62⟩
instance:Fun Tryd.prog 63:=⟨Tryd.call63⟩
instance:Fun Tryd.prog 65:=⟨Tryd.call65⟩
instance:Fun Tryd.prog 66:=⟨Tryd.call66⟩
instance:Fun Tryd.prog 67:=⟨Tryd.call67⟩
instance:Fun Tryd.prog 68:=⟨Tryd.call68⟩
instance:Fun Tryd.prog 69:=⟨Tryd.call69⟩
instance:Fun Tryd.prog 70:=⟨Tryd.call70⟩
instance:Fun Tryd.prog 71:=⟨Tryd.call71⟩
instance:Fun Tryd.prog 72:=⟨Tryd.call72⟩
instance:Fun Tryd.prog 73:=⟨Tryd.call73⟩
instance:Fun Tryd.prog 74:=⟨Tryd.call74⟩
instance:Fun Tryd.prog 75:=⟨Tryd.call75⟩
instance:Fun Tryd.prog 76:=⟨Tryd.call76⟩
instance:Fun Tryd.prog 77:=⟨Tryd.call77⟩
instance:Fun Tryd.prog 79:=⟨Tryd.call79⟩
instance:Fun Tryd.prog 80:=⟨Tryd.call80⟩
instance:Fun Tryd.prog 84:=⟨Tryd.call84⟩
instance:Fun Tryd.prog 85:=⟨Tryd.call85⟩
instance:Fun Tryd.prog 86:=⟨Tryd.call86⟩
instance:Fun Tryd.prog 87:=⟨Tryd.call87⟩
instance:Fun Tryd.prog 88:=⟨Tryd.call88⟩
instance:Fun Tryd.prog 89:=⟨Tryd.call89⟩
instance:Fun Tryd.prog 90:=⟨Tryd.call90⟩
instance:Fun Tryd.prog 94:=⟨Tryd.call94⟩
theorem Tryd.mixed:Tryd.prog.follows .mixedOrders=true:=by decide +kernel
end Go.Proofs
/-
 Digits of natural numbers to a base,the lowest one first;numbers of bytes,the highest one first.
-/
namespace Go.Num
def dgs (b n:Nat):List Nat:=if h:n=0∨b < 2 then [] else n % b::dgs b (n / b)
termination_by n
decreasing_by
 have:=Nat.div_lt_self (n:=n) (k:=b) (by omega) (by omega)
 exact this
def vL (b:Nat):List Nat→Nat
 | []=>0
 | x::r=>x+b*vL b r
theorem dgs_zero (b:Nat):dgs b 0=[]:=by rw [dgs];simp
theorem dgs_pos {b n:Nat} (hb:2≤b) (hn:n≠0):dgs b n=n % b::dgs b (n / b):=by
 rw [dgs,dif_neg (by omega)]
theorem vL_dgs {b:Nat} (hb:2≤b) (n:Nat):vL b (dgs b n)=n:=by
 induction n using Nat.strongRecOn with
 | _ n ih =>
  by_cases hn:n=0
  ·subst hn;rw [dgs_zero];rfl
  ·rw [dgs_pos hb hn,vL,ih _ (Nat.div_lt_self (by omega) (by omega))]
   exact Nat.mod_add_div n b
theorem dgs_lt {b:Nat} (hb:2≤b) (n:Nat):∀ x∈dgs b n,x < b:=by
 induction n using Nat.strongRecOn with
 | _ n ih =>
  by_cases hn:n=0
  ·subst hn;rw [dgs_zero];intro x hx;cases hx
  ·rw [dgs_pos hb hn]
   intro x hx
   rcases List.mem_cons.1 hx with rfl|hx
   ·exact Nat.mod_lt _ (by omega)
   ·exact ih _ (Nat.div_lt_self (by omega) (by omega)) x hx
def trimL:List Nat→List Nat
 | []=>[]
 | x::r=>if x=0∧trimL r=[] then [] else x::trimL r
theorem trimL_eq {b:Nat} (hb:2≤b):∀ l:List Nat,(∀ x∈l,x < b)→trimL l=dgs b (vL b l)
 | [],_=>by rw [vL,dgs_zero];rfl
 | x::r,h=>by
  have hx:x < b:=h x (.head _)
  have ih:=trimL_eq hb r fun y hy=>h y (.tail _ hy)
  rw [trimL,vL,ih]
  by_cases h0:x=0∧dgs b (vL b r)=[]
  ·obtain ⟨rfl,h1⟩:=h0
   rw [if_pos ⟨rfl,h1⟩]
   have:vL b r=0:=by
    have:=vL_dgs hb (vL b r)
    rw [h1] at this
    exact this.symm
   rw [this];simp [dgs_zero]
  ·rw [if_neg h0]
   have hne:x+b*vL b r≠0:=fun e=>h0 ⟨by omega,by
    have:b*vL b r=0:=by omega
    rcases Nat.mul_eq_zero.1 this with h|h
    ·omega
    ·rw [h,dgs_zero]⟩
   rw [dgs_pos hb hne]
   have e1:(x+b*vL b r) % b=x:=by rw [Nat.add_mul_mod_self_left];exact Nat.mod_eq_of_lt hx
   have e2:(x+b*vL b r) / b=vL b r:=by rw [Nat.add_mul_div_left _ _ (by omega),Nat.div_eq_of_lt hx];omega
   rw [e1,e2]
theorem vL_append (b:Nat):∀ l m:List Nat,vL b (l++m)=vL b l+b ^ l.length*vL b m
 | [],m=>by simp [vL]
 | x::r,m=>by
  rw [List.cons_append,vL,vL,vL_append b r m,List.length_cons,Nat.pow_succ]
  rw [Nat.mul_add,← Nat.mul_assoc,Nat.mul_comm b (b ^ r.length)]
  omega
theorem vL_lt {b:Nat} (hb:0 < b):∀ l:List Nat,(∀ x∈l,x < b)→vL b l < b ^ l.length
 | [],_=>by simp [vL]
 | x::r,h=>by
  have hx:x < b:=h x (.head _)
  have ih:=vL_lt hb r fun y hy=>h y (.tail _ hy)
  rw [vL,List.length_cons,Nat.pow_succ,Nat.mul_comm (b ^ r.length) b]
  have:b*(vL b r+1)≤b*b ^ r.length:=Nat.mul_le_mul_left b ih
  rw [Nat.mul_add] at this
  omega
def vB (l:List UInt8):Nat:=l.foldl (fun a x=>256*a+x.toNat) 0
def nB (n:Nat):List UInt8:=((dgs 256 n).map UInt8.ofNat).reverse
theorem vB_go:∀ (l:List UInt8) (a:Nat),l.foldl (fun a x=>256*a+x.toNat) a=a*256 ^ l.length+vB l
 | [],a=>by simp [vB]
 | x::r,a=>by
  have e:vB (x::r)=(256*0+x.toNat)*256 ^ r.length+vB r:=vB_go r _
  have e2:256*a*256 ^ r.length=a*(256 ^ r.length*256):=by rw [Nat.mul_comm 256 a,Nat.mul_assoc,Nat.mul_comm 256]
  rw [List.foldl_cons,vB_go r,e,List.length_cons,Nat.pow_succ,Nat.add_mul,e2,Nat.mul_zero,Nat.zero_add,Nat.add_assoc]
theorem vB_append (l m:List UInt8):vB (l++m)=vB l*256 ^ m.length+vB m:=by
 rw [vB,List.foldl_append,vB_go];rfl
theorem vB_rev (l:List UInt8):vB l=vL 256 (l.reverse.map UInt8.toNat):=by
 induction l with
 | nil=>rfl
 | cons x r ih =>
  rw [List.reverse_cons,List.map_append,vL_append,← ih]
  have:vB (x::r)=vB ([x]++r):=rfl
  rw [this,vB_append]
  simp [vL,vB,Nat.mul_comm]
  omega
theorem nB_zero:nB 0=[]:=by simp [nB,dgs_zero]
theorem vB_nB (n:Nat):vB (nB n)=n:=by
 rw [vB_rev,nB,List.reverse_reverse,List.map_map]
 have:(dgs 256 n).map (UInt8.toNat ∘ UInt8.ofNat)=dgs 256 n:=by
  conv=>rhs;rw [← List.map_id (dgs 256 n)]
  refine List.map_congr_left fun x hx=>?_
  have:=dgs_lt (b:=256) (by omega) n x hx
  simp [UInt8.toNat_ofNat',Nat.mod_eq_of_lt this]
 rw [this,vL_dgs (by omega)]
end Go.Num
/-
 The steps of the algorithms on digits: sums,differences,products,quotients by one digit,comparisons.
-/
namespace Go.Num
theorem vL_take_succ (b:Nat) (x:List Nat) (k:Nat):vL b (x.take (k+1))=vL b (x.take k)+b ^ k*x.getD k 0:=by
 by_cases h:k < x.length
 ·rw [List.take_add_one,List.getElem?_eq_getElem h,vL_append,List.length_take,Nat.min_eq_left (by omega)]
  simp [vL,List.getD_eq_getElem?_getD,List.getElem?_eq_getElem h]
 ·rw [List.take_of_length_le (by omega),List.take_of_length_le (by omega),List.getD_eq_getElem?_getD,List.getElem?_eq_none (by omega)]
  simp
theorem vL_split (b:Nat) (x:List Nat) (k:Nat):vL b x=vL b (x.take k)+b ^ (min k x.length)*vL b (x.drop k):=by
 conv=>lhs;rw [← List.take_append_drop k x]
 rw [vL_append,List.length_take]
theorem getD_lt {b:Nat} (hb:0 < b) {x:List Nat} (h:∀ d∈x,d < b) (k:Nat):x.getD k 0 < b:=by
 rw [List.getD_eq_getElem?_getD]
 by_cases hk:k < x.length
 ·rw [List.getElem?_eq_getElem hk];exact h _ (List.getElem_mem hk)
 ·rw [List.getElem?_eq_none (by omega)];exact hb
theorem vL_snoc (b:Nat) (o:List Nat) (d:Nat):vL b (o++[d])=vL b o+b ^ o.length*d:=by
 rw [vL_append];simp [vL]
theorem lt_snoc {b:Nat}{o:List Nat}{d:Nat} (h:∀ x∈o,x < b) (hd:d < b):∀ x∈o++[d],x < b:=by
 intro x hx
 rcases List.mem_append.1 hx with hx|hx
 ·exact h x hx
 ·have:x=d:=by simpa using hx
  omega
theorem plus_end {b:Nat} (hb:2≤b) {x y o:List Nat}{c:Nat} (hx:∀ d∈x,d < b) (hy:∀ d∈y,d < b) (h:vL b o+b ^ (max x.length y.length+1)*c=vL b (x.take (max x.length y.length+1))+vL b (y.take (max x.length y.length+1))) :
  vL b o=vL b x+vL b y:=by
 rw [List.take_of_length_le (by omega),List.take_of_length_le (by omega)] at h
 have h1:=vL_lt (b:=b) (by omega) x hx
 have h2:=vL_lt (b:=b) (by omega) y hy
 have h3:b ^ x.length≤b ^ (max x.length y.length):=Nat.pow_le_pow_right (by omega) (by omega)
 have h4:b ^ y.length≤b ^ (max x.length y.length):=Nat.pow_le_pow_right (by omega) (by omega)
 have h5:b ^ (max x.length y.length)*2≤b ^ (max x.length y.length+1):=by rw [Nat.pow_succ];exact Nat.mul_le_mul_left _ hb
 rcases Nat.eq_zero_or_pos c with rfl|hc
 ·omega
 ·have:b ^ (max x.length y.length+1)*1≤b ^ (max x.length y.length+1)*c:=Nat.mul_le_mul_left _ hc
  omega
theorem minus_step {b:Nat} (hb:2≤b) {x y o:List Nat}{k c:Nat} (hk:o.length=k) (hy:∀ d∈y,d < b) (hc:c≤1) (h:vL b o+vL b (y.take k)+b ^ k*c=vL b (x.take k)+b ^ k*(2*c)) (hx:x.getD k 0 < b) :
  ∃ d c':Nat,(x.getD k 0:Int)-y.getD k 0-c=(d:Int)-(b*c':Nat)∧d < b∧c'≤1∧vL b (o++[d])+vL b (y.take (k+1))=vL b (x.take (k+1))+b ^ (k+1)*c':=by
 have hy':=getD_lt (by omega) hy k
 have h':vL b o+vL b (y.take k)=vL b (x.take k)+b ^ k*c:=by
  have:b ^ k*(2*c)=b ^ k*c+b ^ k*c:=by rw [show 2*c=c+c by omega,Nat.mul_add]
  omega
 by_cases hlt:x.getD k 0 < y.getD k 0+c
 ·refine ⟨x.getD k 0+b-y.getD k 0-c,1,by omega,by omega,Nat.le_refl _,?_⟩
  rw [vL_snoc,vL_take_succ,vL_take_succ,hk,Nat.pow_succ]
  have e:b ^ k*(x.getD k 0+b-y.getD k 0-c)+b ^ k*y.getD k 0+b ^ k*c=b ^ k*x.getD k 0+b ^ k*b*1:=by
   rw [← Nat.mul_add,← Nat.mul_add,Nat.mul_one,← Nat.mul_add];congr 1;omega
  omega
 ·refine ⟨x.getD k 0-y.getD k 0-c,0,by omega,by omega,Nat.zero_le _,?_⟩
  rw [vL_snoc,vL_take_succ,vL_take_succ,hk]
  have e:b ^ k*(x.getD k 0-y.getD k 0-c)+b ^ k*y.getD k 0+b ^ k*c=b ^ k*x.getD k 0:=by
   rw [← Nat.mul_add,← Nat.mul_add];congr 1;omega
  omega
theorem minus_end {b:Nat} (hb:2≤b) {x y o:List Nat}{c:Nat} (hx:∀ d∈x,d < b) (ho:∀ d∈o,d < b) (hl:o.length=x.length) (hle:vL b y≤vL b x) (h:vL b o+vL b (y.take x.length)=vL b x+b ^ x.length*c) :
  vL b o=vL b x-vL b y:=by
 have h1:=vL_lt (b:=b) (by omega) x hx
 have h2:=vL_lt (b:=b) (by omega) o ho
 rw [hl] at h2
 have h3:=vL_split b y x.length
 have h4:vL b (y.take x.length)=vL b y:=by
  rcases Nat.lt_or_ge x.length y.length with hlt|hge
  ·rw [Nat.min_eq_left (by omega)] at h3
   rcases Nat.eq_zero_or_pos (vL b (y.drop x.length)) with h0|h0
   ·rw [h0] at h3;omega
   ·have:b ^ x.length*1≤b ^ x.length*vL b (y.drop x.length):=Nat.mul_le_mul_left _ h0
    omega
  ·rw [List.take_of_length_le hge]
 rcases Nat.eq_zero_or_pos c with rfl|hc
 ·omega
 ·have:b ^ x.length*1≤b ^ x.length*c:=Nat.mul_le_mul_left _ hc
  omega
theorem vL_set (b:Nat):∀ (l:List Nat) (j v:Nat),j < l.length→vL b (l.set j v)+b ^ j*l.getD j 0=vL b l+b ^ j*v
 | [],j,v,h=>absurd h (by simp)
 | x::r,0,v,_=>by simp [vL];omega
 | x::r,j+1,v,h=>by
  have ih:=vL_set b r j v (by simpa using h)
  have e:b*vL b (r.set j v)+b*(b ^ j*r.getD j 0)=b*vL b r+b*(b ^ j*v):=by rw [← Nat.mul_add,ih,Nat.mul_add]
  simp only [List.set_cons_succ,vL,List.getD_cons_succ,Nat.pow_succ]
  rw [Nat.mul_comm (b ^ j) b,Nat.mul_assoc,Nat.mul_assoc]
  omega
theorem times_step {b:Nat}{o y:List Nat}{a i k c z:Nat} (hik:i+k < o.length) (h:vL b o+b ^ (i+k)*c=z+a*b ^ i*vL b (y.take k)) :
  vL b (o.set (i+k) ((a*y.getD k 0+o.getD (i+k) 0+c) % b))+b ^ (i+(k+1))*((a*y.getD k 0+o.getD (i+k) 0+c) / b)=z+a*b ^ i*vL b (y.take (k+1)):=by
 have hs:=Nat.mod_add_div (a*y.getD k 0+o.getD (i+k) 0+c) b
 have h2:=vL_set b o (i+k) ((a*y.getD k 0+o.getD (i+k) 0+c) % b) hik
 have e1:b ^ (i+(k+1))=b ^ (i+k)*b:=by rw [← Nat.add_assoc,Nat.pow_succ]
 have e2:a*b ^ i*(b ^ k*y.getD k 0)=b ^ (i+k)*(a*y.getD k 0):=by
  rw [Nat.pow_add,Nat.mul_comm a,Nat.mul_assoc,Nat.mul_assoc,Nat.mul_left_comm a]
 rw [vL_take_succ,e1,Nat.mul_add,e2,Nat.mul_assoc]
 have e3:b ^ (i+k)*((a*y.getD k 0+o.getD (i+k) 0+c) % b)+b ^ (i+k)*(b*((a*y.getD k 0+o.getD (i+k) 0+c) / b))=b ^ (i+k)*(a*y.getD k 0)+b ^ (i+k)*o.getD (i+k) 0+b ^ (i+k)*c:=by
  rw [← Nat.mul_add,hs,Nat.mul_add,Nat.mul_add]
 omega
theorem times_small {b a u v c:Nat} (ha:a < b) (hu:u < b) (hv:v < b) (hc:c < b):(a*u+v+c) / b < b:=by
 apply Nat.div_lt_of_lt_mul
 have h1:a*u≤(b-1)*(b-1):=Nat.mul_le_mul (by omega) (by omega)
 obtain ⟨m,rfl⟩:∃ m,b=m+1:=⟨b-1,by omega⟩
 simp only [Nat.add_sub_cancel] at h1
 rw [Nat.add_mul,Nat.mul_add]
 omega
theorem small_step {b d x q r v w:Nat} (hr:r < d) (hx:x < b) (h:d*q+r=v) (hw:w=x+b*v):(r*b+x) / d < b∧(r*b+x) % d < d∧d*((r*b+x) / d+b*q)+(r*b+x) % d=w:=by
 refine ⟨Nat.div_lt_of_lt_mul ?_,Nat.mod_lt _ (by omega),?_⟩
 ·have:(r+1)*b≤d*b:=Nat.mul_le_mul_right _ hr
  rw [Nat.add_mul,Nat.one_mul] at this
  omega
 ·have hs:=Nat.mod_add_div (r*b+x) d
  subst hw;subst h
  rw [Nat.mul_add,Nat.mul_add b,Nat.mul_left_comm b,Nat.mul_comm b r,Nat.mul_left_comm d]
  omega
end Go.Num
/-
 Comparing digits;the canonical bytes;lengths;the division digit by digit.
-/
namespace Go.Num
theorem dgs_bound {b:Nat} (hb:2≤b):∀ (k n:Nat),n < b ^ k→(dgs b n).length≤k
 | 0,n,h=>by
  have:n=0:=by simpa using h
  subst this;rw [dgs_zero];exact Nat.le_refl _
 | k+1,n,h=>by
  by_cases hn:n=0
  ·subst hn;rw [dgs_zero];exact Nat.zero_le _
  ·rw [dgs_pos hb hn,List.length_cons]
   have:=dgs_bound hb k (n / b) (Nat.div_lt_of_lt_mul (by rw [Nat.pow_succ,Nat.mul_comm] at h;exact h))
   omega
theorem dgs_least {b:Nat} (hb:2≤b) (n:Nat) (h:n≠0):b ^ ((dgs b n).length-1)≤n:=by
 rcases Nat.lt_or_ge n (b ^ ((dgs b n).length-1)) with h1|h1
 ·have:=dgs_bound hb _ n h1
  have h2:(dgs b n).length≠0:=by rw [dgs_pos hb h];simp
  omega
 ·exact h1
theorem dgs_len_lt {b:Nat} (hb:2≤b) {m n:Nat} (h:(dgs b m).length < (dgs b n).length):m < n:=by
 have hn:n≠0:=fun e=>by subst e;rw [dgs_zero] at h;exact absurd h (by simp)
 have h1:=dgs_least hb n hn
 have h2:=vL_lt (b:=b) (by omega) (dgs b m) (dgs_lt hb m)
 rw [vL_dgs hb] at h2
 have h3:b ^ (dgs b m).length≤b ^ ((dgs b n).length-1):=Nat.pow_le_pow_right (by omega) (by omega)
 omega
theorem dgs_len_mono {b:Nat} (hb:2≤b) {m n:Nat} (h:m≤n):(dgs b m).length≤(dgs b n).length:=by
 rcases Nat.lt_or_ge (dgs b n).length (dgs b m).length with h1|h1
 ·have:=dgs_len_lt hb h1;omega
 ·exact h1
theorem vL_drop_succ {b:Nat}{x:List Nat}{k:Nat} (h:k < x.length):vL b (x.drop k)=x.getD k 0+b*vL b (x.drop (k+1)):=by
 rw [List.drop_eq_getElem_cons h,vL,List.getD_eq_getElem?_getD,List.getElem?_eq_getElem h];rfl
theorem cmp_top {b:Nat} (hb:2≤b) {x y:List Nat}{k:Nat} (hx:∀ d∈x,d < b) (hl:x.length=y.length) (hk:k < x.length) (h:vL b (x.drop (k+1))=vL b (y.drop (k+1))) (hlt:x.getD k 0 < y.getD k 0):vL b x < vL b y:=by
 have h1:=vL_split b x k
 have h2:=vL_split b y k
 rw [Nat.min_eq_left (by omega)] at h1 h2
 rw [vL_drop_succ hk] at h1
 rw [vL_drop_succ (by omega),← h] at h2
 have h3:=vL_lt (b:=b) (by omega) (x.take k) fun d hd=>hx d (List.mem_of_mem_take hd)
 rw [List.length_take,Nat.min_eq_left (by omega)] at h3
 have h4:b ^ k*(x.getD k 0+1+b*vL b (x.drop (k+1)))≤b ^ k*(y.getD k 0+b*vL b (x.drop (k+1))):=Nat.mul_le_mul_left _ (by omega)
 rw [Nat.mul_add,Nat.mul_add,Nat.mul_one] at h4
 rw [Nat.mul_add] at h1 h2 h4
 omega
theorem kn_top {V R q t v p:Nat} (hV:v*p≤V) (hR:R < (t+1)*p) (hq:q*V≤R):q*v≤t:=by
 have h1:q*(v*p)≤q*V:=Nat.mul_le_mul_left _ hV
 have h2:q*v*p < (t+1)*p:=by rw [Nat.mul_assoc];omega
 have:=Nat.lt_of_mul_lt_mul_right h2
 omega
theorem kn_second {b V R g t v u l r p:Nat} (hV:(v*b+u)*p≤V) (hR:R < (t*b+r+1)*p) (hl:l+g*v=t) (hg:l*b+r < g*u):R < g*V:=by
 have h1:g*((v*b+u)*p)≤g*V:=Nat.mul_le_mul_left _ hV
 have h2:(t*b+r+1)≤g*(v*b+u):=by
  subst hl
  rw [Nat.mul_add,Nat.add_mul,← Nat.mul_assoc]
  omega
 have h3:=Nat.mul_le_mul_right p h2
 rw [Nat.mul_assoc] at h3
 omega
theorem kn_next {V R g q:Nat} (hq:q=R / V) (hV:0 < V) (h:R < g*V):q < g:=by
 subst hq
 exact (Nat.div_lt_iff_lt_mul hV).2 h
theorem trimL_last:∀ (m:List Nat),m≠[]→m.getLast?≠some 0→trimL m=m
 | [],h,_=>absurd rfl h
 | [x],_,h=>by
  have:x≠0:=fun e=>h (by rw [e];rfl)
  simp [trimL,this]
 | x::y::r,_,h=>by
  have ih:=trimL_last (y::r) (by simp) (by simpa [List.getLast?_cons_cons] using h)
  rw [trimL,if_neg (by rw [ih];simp),ih]
theorem nB_vB_of {x:UInt8}{r:List UInt8} (hx:x≠0):nB (vB (x::r))=x::r:=by
 have hlt:∀ d∈(x::r).reverse.map UInt8.toNat,d < 256:=fun d hd=>by
  obtain ⟨y,_,rfl⟩:=List.mem_map.1 hd
  exact y.toNat_lt
 rw [nB,vB_rev,← trimL_eq (by omega) _ hlt,trimL_last]
 ·rw [List.map_map]
  have:(UInt8.ofNat ∘ UInt8.toNat)=id:=by funext y;simp
  rw [this];simp
 ·simp
 ·rw [List.getLast?_map,List.getLast?_reverse]
  simp only [List.head?_cons,Option.map_some,ne_eq,Option.some.injEq]
  intro e
  exact hx (UInt8.toNat_inj.1 (by simpa using e))
theorem clean_eq:∀ l:List UInt8,l.dropWhile (· == 0)=nB (vB l)
 | []=>by simp [vB,nB_zero]
 | x::r=>by
  by_cases hx:x=0
  ·subst hx
   have e:vB (0::r)=vB r:=by show vB ([0]++r)=_;rw [vB_append];simp [vB]
   rw [e,← clean_eq r]
   simp
  ·rw [nB_vB_of hx]
   simp [hx]
theorem nB_bound {n k:Nat} (h:n < 256 ^ k):(nB n).length≤k:=by
 rw [nB,List.length_reverse,List.length_map]
 exact dgs_bound (by omega) k n h
theorem vB_lt (l:List UInt8):vB l < 256 ^ l.length:=by
 rw [vB_rev]
 have:=vL_lt (b:=256) (by omega) (l.reverse.map UInt8.toNat) fun d hd=>by
  obtain ⟨y,_,rfl⟩:=List.mem_map.1 hd
  exact y.toNat_lt
 simpa using this
end Go.Num
/-
 Rational numbers as the program writes them (sign,numerator,denominator,as bytes) and as Lean knows them.
-/
namespace Go.Num
def sg (s:Bool) (n:Nat):Int:=if s then -(n:Int) else n
def ofF (s:Bool) (n d:Nat):Rat:=mkRat (sg s n) d
structure Q3 where
 neg:Bool
 num:List UInt8
 den:List UInt8
 deriving DecidableEq
def zero3:Q3:=⟨false,[],[]⟩
def validQ (a:Q3):Prop:=a=zero3∨(a.num≠[]∧a.den≠[]∧nB (vB a.num)=a.num∧nB (vB a.den)=a.den∧Nat.gcd (vB a.num) (vB a.den)=1)
instance (a:Q3):Decidable (validQ a):=by unfold validQ;exact inferInstance
def qR (a:Q3):Rat:=if validQ a then (if a.num=[] then 0 else ofF a.neg (vB a.num) (vB a.den)) else 0
def rQ (q:Rat):Q3:=if q.num=0 then zero3 else ⟨decide (q.num < 0),nB q.num.natAbs,nB q.den⟩
end Go.Num
/-
 What the program and the specification do with fractions,as rational numbers.
-/
namespace Go.Num
def sgnR (q:Rat):Int:=if q=0 then 0 else if q < 0 then -1 else 1
end Go.Num
/-
 Fields of struct values.
-/
namespace Go.Sl
open Go.RowKit
variable {C:Ctx}{st:List (Nat×Value)}{M:List Row}{k:List Item}{q q':Md}{all rest:List Oper}{d:Nat}{opn:Op}{ty:TypeId}{pos:String}{after:Array Edge}{gd:Option (Nat×Bool)}
def partL (cs:List Value) (off n:Nat) (ag:Bool):Option Value :=
 match ag with
 | true=>some (.agg ((cs.drop off).take n).toArray)
 | false=>cs[off]?
class TPart (P:Program) (T f:Nat) (off n:outParam Nat) (ag:outParam Bool):Prop where
 h:∀ (cs:List Value) v w,partL cs off n ag=some v→(Instr.field T (.agg cs.toArray) f).run P w=.ok v w
theorem G.fd {T f off n:Nat}{ag:Bool}{x:Operand}{cs:List Value}{v:Value} (hx:evS st x=some (.agg cs.toArray)) [hT:TPart C.P T f off n ag] (hv:partL cs off n ag=some v) (hs:sideB all st gd d C.N q.calm=some q') (h:G q' C all ((d,v)::st) M rest k) :
  G q C all st M ({ dst:=some d,op:=.field T x f,type:=ty,pos,after,guard:=gd }::rest) k:=by
 obtain ⟨g1,g2,g3⟩:=sideB_ok hs
 exact G.op (OpV.of fun ac w hf _ dst pos after guard=>by simp [execOp,hf.eval hx,hT.h cs v w hv]) g1 rfl g2 g3 h
end Go.Sl
/-
 Structs of a bool and two strings that are compared;bools that are compared;calls of method values.
-/
namespace Go.Sl
open Go.RowKit Go.Num
variable {C:Ctx}{st:List (Nat×Value)}{M:List Row}{k:List Item}{q q':Md}{all rest:List Oper}{d:Nat}{opn:Op}{ty:TypeId}{pos:String}{after:Array Edge}{gd:Option (Nat×Bool)}
abbrev qA (a:Q3):Value:=.agg #[.bool a.neg,.string (bs a.num),.string (bs a.den)]
class TEqR (P:Program) (T:TypeId):Prop where
 h:∀ (a b:Bool) (x y u v:ByteArray) w,(Op.equal T (.agg #[.bool a,.string x,.string u]) (.agg #[.bool b,.string y,.string v])).run P w=.ok (a == b && (x.toList == y.toList && u.toList == v.toList)) w
 g:P.eqGuardType P.depth T=false
theorem G.beq {T:TypeId}{x y:Operand}{yt:TypeId}{a b:Bool} (hx:evS st x=some (.bool a)) (hy:evS st y=some (.bool b)) [hT:TBool C.P T] (hs:sideB all st gd d C.N q.calm=some q') (h:G q' C all ((d,.bool (a == b))::st) M rest k) :
  G q C all st M ({ dst:=some d,op:=.binOp .eql T x y yt,type:=ty,pos,after,guard:=gd }::rest) k:=by
 obtain ⟨g1,g2,g3⟩:=sideB_ok hs
 exact G.op (OpV.eqlB hx hy) g1 rfl g2 g3 h
theorem G.bne {T:TypeId}{x y:Operand}{yt:TypeId}{a b:Bool} (hx:evS st x=some (.bool a)) (hy:evS st y=some (.bool b)) [hT:TBool C.P T] (hs:sideB all st gd d C.N q.calm=some q') (h:G q' C all ((d,.bool (a != b))::st) M rest k) :
  G q C all st M ({ dst:=some d,op:=.binOp .neq T x y yt,type:=ty,pos,after,guard:=gd }::rest) k:=by
 obtain ⟨g1,g2,g3⟩:=sideB_ok hs
 refine G.op (OpV.of fun ac w hf _ dst pos after guard=>?_) g1 rfl g2 g3 h
 have hg:(eqGuard .neq T x y (.bool a) (.bool b)).run C.P w=.ok () w:=by rfl
 have e:(binOp .neq T (.bool a) (.bool b)).run C.P w=.ok (.bool (a != b)) w:=by
  show ((Op.equal T _ _).bind fun b=>Sem.pure (Value.bool (!b))).run C.P w=_
  rw [Sem.run_bind',run_equal_bool _ _ _ _ hT.h];rfl
 simp only [execOp,hf.eval hx,hf.eval hy,Sem.run_bind,hg,e,Result.andThen_ok];rfl
def pqr (i:Nat):Nat→Pt
 | 0=>.r i .nil
 | n+1=>.q i (pqr (i+1) n)
theorem J.regL {id:Nat}{l:List Oper} (hm:C.P.follows .mixedOrders=true)
  (hB:(decide ((pqr 0 (l.length-1)).size=l.length) && (planB l.toArray (Array.replicate l.length false) (pqr 0 (l.length-1)) && (Region.noSelect l.toArray && noDefer l)))=true)
  (h:G (.any (pqr 0 (l.length-1))) C l st M (opsOf l (pqr 0 (l.length-1))) k):J C st M (.code (.region id l.toArray true)::k):=J.regA _ hm hB h
theorem G.mm {f:Fn}{first:List Operand}{vs:List Value} (ha:evL st first=some vs) (hs:sideB all st gd d C.N q.calm=some q') (h:G q' C all ((d,.func f vs.toArray #[])::st) M rest k) :
  G q C all st M ({ dst:=some d,op:=.makeFunc f first.toArray #[],type:=ty,pos,after,guard:=gd }::rest) k:=by
 obtain ⟨g1,g2,g3⟩:=sideB_ok hs
 exact G.op (OpV.of fun a w hf _ dst pos after guard=>by
  have:=hf.evals ha
  simp [execOp,this,Instr.makeFunc]) g1 rfl g2 g3 h
end Go.Sl
/-
 A part of a block,loaded as a struct.
-/
namespace Go.Sl
open Go.RowKit Go.Num
variable {C:Ctx}{st:List (Nat×Value)}{M:List Row}{k:List Item}{q q':Md}{all rest:List Oper}{d:Nat}{opn:Op}{ty:TypeId}{pos:String}{after:Array Edge}{gd:Option (Nat×Bool)}
theorem LdV.part {T n:Nat} [hT:TAgg C.P T n] {b o tot:Nat}{e:TypeId}{cs vs:List Value} (hm:Row.blk b e cs tot∈M) (hv:(cs.drop o).take n=vs) (hl:(vs.length == n)=true):LdV C M T ⟨b,o,none⟩ (.agg vs.toArray):=by
 subst hv
 refine LdV.agg (beq_iff_eq.1 hl) (CellsV.of fun j v hj=>CellV.blk hm ?_)
 rw [List.getElem?_take] at hj
 split at hj
 ·rwa [List.getElem?_drop] at hj
 ·cases hj
theorem LdV.partRow {T n:Nat} [hT:TAgg C.P T n] {b o j:Nat}{cs vs:List Value} (h:RowAt C.w0 b o cs) (hv:(cs.drop j).take n=vs) (hl:(vs.length == n)=true):LdV C M T ⟨b,o+j,none⟩ (.agg vs.toArray):=by
 subst hv
 refine LdV.agg (beq_iff_eq.1 hl) (CellsV.of fun i v hj=>?_)
 rw [Nat.add_assoc]
 refine CellV.rowS h ?_
 rw [List.getElem?_take] at hj
 split at hj
 ·rwa [List.getElem?_drop] at hj
 ·cases hj
theorem CellV.rowSS {b o i j:Nat}{cs:List Value}{v:Value} (h:RowAt C.w0 b o cs) (hv:cs[i+j]?=some v):CellV C M ⟨b,o+i+j,none⟩ v:=by rw [Nat.add_assoc];exact CellV.rowS h hv
theorem sub_one (k:Nat):((k+1:Nat):Int)-1=(k:Int):=by omega
theorem add_one' (k:Nat):(k:Int)+1=((k+1:Nat):Int):=rfl
end Go.Sl
/-
 The driver over operations and regions,the entrance,the results and the loops;each looks its side conditions up by itself.
-/
namespace Go.Sl
open Go.RowKit Go.Proofs
variable {C:Ctx}{st:List (Nat×Value)}{M:List Row}{k:List Item}{q q':Md}{all rest:List Oper}{d:Nat}{opn:Op}{ty:TypeId}{pos:String}{after:Array Edge}{gd:Option (Nat×Bool)}
theorem G.nc {x:Operand}{p:Addr} (hx:evS st x=some (.pointer (some p))) (hs:sideB all st gd d C.N q.calm=some q') (h:G q' C all ((d,.pointer (some p))::st) M rest k) :
  G q C all st M ({ dst:=some d,op:=.nilCheck x,type:=ty,pos,after,guard:=gd }::rest) k:=by
 obtain ⟨g1,g2,g3⟩:=sideB_ok hs
 refine G.op (OpV.of fun ac w hf hw dst pos after guard=>?_) g1 rfl g2 g3 h
 simp only [execOp,hf.eval hx];rfl
theorem mm {α:Type}{a:α}{l:List α} (h:a∈l:=by (repeat (first|exact List.Mem.head _|apply List.Mem.tail))):a∈l:=h
theorem LdV.au {T:TypeId}{p:Addr}{v:Value} (h:LdV C M T p v:=by (first|(apply LdV.one;(first|exact CellV.row0 (by assumption) rfl|exact CellV.rowS (by assumption) rfl|exact CellV.rowSS (by assumption) rfl|(apply CellV.blk;(repeat (first|exact List.Mem.head _|apply List.Mem.tail));rfl)))|(apply LdV.aggBlk;(repeat (first|exact List.Mem.head _|apply List.Mem.tail));rfl)|(apply LdV.part;(repeat (first|exact List.Mem.head _|apply List.Mem.tail));rfl;rfl)|(apply LdV.aggRow;assumption;rfl)|(apply LdV.partRow;assumption;rfl;rfl))):LdV C M T p v:=h
theorem RAt.au {r:Row}{F:Row→List Row} (h:RAt r M F:=by (repeat (first|exact RAt.head|apply RAt.tail))):RAt r M F:=h
theorem J.fin {st':List (Nat×Value)}{M':List Row} (h:J C st' M' k) (hs:Sub st st':=by (repeat' (first|exact trivial|refine ⟨rfl,?_⟩))) (hM:M'.Sublist M:=by (repeat' (first|exact List.Sublist.refl _|apply List.Sublist.cons_cons|apply List.Sublist.cons))):J C st M k:=J.forget hM (J.sub hs h)
theorem sbT {st':List (Nat×Value)} (h:Sub st st':=by (repeat' (first|exact trivial|refine ⟨rfl,?_⟩))):Sub st st':=h
theorem sbL {α:Type}{l m:List α} (h:l.Sublist m:=by (repeat' (first|exact List.Sublist.refl _|apply List.Sublist.cons_cons|apply List.Sublist.cons))):l.Sublist m:=h
theorem enterA {P:Program}{F:FuncId}{fn:Func}{c:Code}{args:Array Value}{w:World}{R:Ending→World→Prop}{N:Nat} (st:List (Nat×Value)) (hf:P.funcs[F]?=some fn) (hN:fn.ntmps=N) (h:J (fctx P F N R w) st [] [.code c])
  (hb:fn.body=some c:=by rfl) (ha:(args.size≤N)=True:=by simp) (hst:ArgsOk args st:=by (repeat' (first|exact trivial|refine ⟨rfl,?_⟩))):Calls P F args w R:=enter st hf hb hN ha hst h
section
variable {P:Program}{F:FuncId}{N:Nat}{R:Ending→World→Prop}{w0:World}{fn:Func}{u v v1 v2 v3:Value}{r r1 r2 r3:ResultVar}
theorem ret1 (hf:P.funcs[F]?=some fn) (hr:fn.results=#[r]) (hR:∀ w,Sat w0 M w→R (.returned v) w) (hv:ResV (fctx P F N R w0) st M r v:=by (first|(apply ResV.tmp;rfl)|(apply ResV.cell;rfl;(first|(apply LdV.one;(first|exact CellV.row0 (by assumption) rfl|exact CellV.rowS (by assumption) rfl|exact CellV.rowSS (by assumption) rfl|(apply CellV.blk;(repeat (first|exact List.Mem.head _|apply List.Mem.tail));rfl)))|(apply LdV.aggBlk;(repeat (first|exact List.Mem.head _|apply List.Mem.tail));rfl)|(apply LdV.part;(repeat (first|exact List.Mem.head _|apply List.Mem.tail));rfl;rfl)|(apply LdV.aggRow;assumption;rfl)|(apply LdV.partRow;assumption;rfl;rfl))))) :
  J (fctx P F N R w0) st M (.code .ret::k):=leave hf (RunsTo.one hr hv) hR
theorem ret2 (hf:P.funcs[F]?=some fn) (hr:fn.results=#[r1,r2]) (hR:∀ w,Sat w0 M w→R (.returned (.tuple #[v1,v2])) w) (hv1:ResV (fctx P F N R w0) st M r1 v1:=by (first|(apply ResV.tmp;rfl)|(apply ResV.cell;rfl;(first|(apply LdV.one;(first|exact CellV.row0 (by assumption) rfl|exact CellV.rowS (by assumption) rfl|exact CellV.rowSS (by assumption) rfl|(apply CellV.blk;(repeat (first|exact List.Mem.head _|apply List.Mem.tail));rfl)))|(apply LdV.aggBlk;(repeat (first|exact List.Mem.head _|apply List.Mem.tail));rfl)|(apply LdV.part;(repeat (first|exact List.Mem.head _|apply List.Mem.tail));rfl;rfl)|(apply LdV.aggRow;assumption;rfl)|(apply LdV.partRow;assumption;rfl;rfl))))) (hv2:ResV (fctx P F N R w0) st M r2 v2:=by (first|(apply ResV.tmp;rfl)|(apply ResV.cell;rfl;(first|(apply LdV.one;(first|exact CellV.row0 (by assumption) rfl|exact CellV.rowS (by assumption) rfl|exact CellV.rowSS (by assumption) rfl|(apply CellV.blk;(repeat (first|exact List.Mem.head _|apply List.Mem.tail));rfl)))|(apply LdV.aggBlk;(repeat (first|exact List.Mem.head _|apply List.Mem.tail));rfl)|(apply LdV.part;(repeat (first|exact List.Mem.head _|apply List.Mem.tail));rfl;rfl)|(apply LdV.aggRow;assumption;rfl)|(apply LdV.partRow;assumption;rfl;rfl))))) :
  J (fctx P F N R w0) st M (.code .ret::k):=leave hf (RunsTo.two hr hv1 hv2) hR
theorem ret3 (hf:P.funcs[F]?=some fn) (hr:fn.results=#[r1,r2,r3]) (hR:∀ w,Sat w0 M w→R (.returned (.tuple #[v1,v2,v3])) w) (hv1:ResV (fctx P F N R w0) st M r1 v1:=by (first|(apply ResV.tmp;rfl)|(apply ResV.cell;rfl;(first|(apply LdV.one;(first|exact CellV.row0 (by assumption) rfl|exact CellV.rowS (by assumption) rfl|exact CellV.rowSS (by assumption) rfl|(apply CellV.blk;(repeat (first|exact List.Mem.head _|apply List.Mem.tail));rfl)))|(apply LdV.aggBlk;(repeat (first|exact List.Mem.head _|apply List.Mem.tail));rfl)|(apply LdV.part;(repeat (first|exact List.Mem.head _|apply List.Mem.tail));rfl;rfl)|(apply LdV.aggRow;assumption;rfl)|(apply LdV.partRow;assumption;rfl;rfl))))) (hv2:ResV (fctx P F N R w0) st M r2 v2:=by (first|(apply ResV.tmp;rfl)|(apply ResV.cell;rfl;(first|(apply LdV.one;(first|exact CellV.row0 (by assumption) rfl|exact CellV.rowS (by assumption) rfl|exact CellV.rowSS (by assumption) rfl|(apply CellV.blk;(repeat (first|exact List.Mem.head _|apply List.Mem.tail));rfl)))|(apply LdV.aggBlk;(repeat (first|exact List.Mem.head _|apply List.Mem.tail));rfl)|(apply LdV.part;(repeat (first|exact List.Mem.head _|apply List.Mem.tail));rfl;rfl)|(apply LdV.aggRow;assumption;rfl)|(apply LdV.partRow;assumption;rfl;rfl))))) (hv3:ResV (fctx P F N R w0) st M r3 v3:=by (first|(apply ResV.tmp;rfl)|(apply ResV.cell;rfl;(first|(apply LdV.one;(first|exact CellV.row0 (by assumption) rfl|exact CellV.rowS (by assumption) rfl|exact CellV.rowSS (by assumption) rfl|(apply CellV.blk;(repeat (first|exact List.Mem.head _|apply List.Mem.tail));rfl)))|(apply LdV.aggBlk;(repeat (first|exact List.Mem.head _|apply List.Mem.tail));rfl)|(apply LdV.part;(repeat (first|exact List.Mem.head _|apply List.Mem.tail));rfl;rfl)|(apply LdV.aggRow;assumption;rfl)|(apply LdV.partRow;assumption;rfl;rfl))))) :
  J (fctx P F N R w0) st M (.code .ret::k):=leave hf (RunsTo.three hr hv1 hv2 hv3) hR
theorem ret1b (hf:P.funcs[F]?=some fn) (hr:fn.results=#[r]) (hR:Ending.returned v=.returned u) (hv:ResV (fctx P F N (fun e w'=>e=.returned u∧Below w0.heap.size w0 w') w0) st M r v:=by (first|(apply ResV.tmp;rfl)|(apply ResV.cell;rfl;(first|(apply LdV.one;(first|exact CellV.row0 (by assumption) rfl|exact CellV.rowS (by assumption) rfl|exact CellV.rowSS (by assumption) rfl|(apply CellV.blk;(repeat (first|exact List.Mem.head _|apply List.Mem.tail));rfl)))|(apply LdV.aggBlk;(repeat (first|exact List.Mem.head _|apply List.Mem.tail));rfl)|(apply LdV.part;(repeat (first|exact List.Mem.head _|apply List.Mem.tail));rfl;rfl)|(apply LdV.aggRow;assumption;rfl)|(apply LdV.partRow;assumption;rfl;rfl))))) :
  J (fctx P F N (fun e w'=>e=.returned u∧Below w0.heap.size w0 w') w0) st M (.code .ret::k):=ret1 hf hr (fun _ hw=>⟨hR,hw.below⟩) hv
theorem ret2b (hf:P.funcs[F]?=some fn) (hr:fn.results=#[r1,r2]) (hR:Ending.returned (.tuple #[v1,v2])=.returned u) (hv1:ResV (fctx P F N (fun e w'=>e=.returned u∧Below w0.heap.size w0 w') w0) st M r1 v1:=by (first|(apply ResV.tmp;rfl)|(apply ResV.cell;rfl;(first|(apply LdV.one;(first|exact CellV.row0 (by assumption) rfl|exact CellV.rowS (by assumption) rfl|exact CellV.rowSS (by assumption) rfl|(apply CellV.blk;(repeat (first|exact List.Mem.head _|apply List.Mem.tail));rfl)))|(apply LdV.aggBlk;(repeat (first|exact List.Mem.head _|apply List.Mem.tail));rfl)|(apply LdV.part;(repeat (first|exact List.Mem.head _|apply List.Mem.tail));rfl;rfl)|(apply LdV.aggRow;assumption;rfl)|(apply LdV.partRow;assumption;rfl;rfl))))) (hv2:ResV (fctx P F N (fun e w'=>e=.returned u∧Below w0.heap.size w0 w') w0) st M r2 v2:=by (first|(apply ResV.tmp;rfl)|(apply ResV.cell;rfl;(first|(apply LdV.one;(first|exact CellV.row0 (by assumption) rfl|exact CellV.rowS (by assumption) rfl|exact CellV.rowSS (by assumption) rfl|(apply CellV.blk;(repeat (first|exact List.Mem.head _|apply List.Mem.tail));rfl)))|(apply LdV.aggBlk;(repeat (first|exact List.Mem.head _|apply List.Mem.tail));rfl)|(apply LdV.part;(repeat (first|exact List.Mem.head _|apply List.Mem.tail));rfl;rfl)|(apply LdV.aggRow;assumption;rfl)|(apply LdV.partRow;assumption;rfl;rfl))))) :
  J (fctx P F N (fun e w'=>e=.returned u∧Below w0.heap.size w0 w') w0) st M (.code .ret::k):=ret2 hf hr (fun _ hw=>⟨hR,hw.below⟩) hv1 hv2
theorem ret3b (hf:P.funcs[F]?=some fn) (hr:fn.results=#[r1,r2,r3]) (hR:Ending.returned (.tuple #[v1,v2,v3])=.returned u) (hv1:ResV (fctx P F N (fun e w'=>e=.returned u∧Below w0.heap.size w0 w') w0) st M r1 v1:=by (first|(apply ResV.tmp;rfl)|(apply ResV.cell;rfl;(first|(apply LdV.one;(first|exact CellV.row0 (by assumption) rfl|exact CellV.rowS (by assumption) rfl|exact CellV.rowSS (by assumption) rfl|(apply CellV.blk;(repeat (first|exact List.Mem.head _|apply List.Mem.tail));rfl)))|(apply LdV.aggBlk;(repeat (first|exact List.Mem.head _|apply List.Mem.tail));rfl)|(apply LdV.part;(repeat (first|exact List.Mem.head _|apply List.Mem.tail));rfl;rfl)|(apply LdV.aggRow;assumption;rfl)|(apply LdV.partRow;assumption;rfl;rfl))))) (hv2:ResV (fctx P F N (fun e w'=>e=.returned u∧Below w0.heap.size w0 w') w0) st M r2 v2:=by (first|(apply ResV.tmp;rfl)|(apply ResV.cell;rfl;(first|(apply LdV.one;(first|exact CellV.row0 (by assumption) rfl|exact CellV.rowS (by assumption) rfl|exact CellV.rowSS (by assumption) rfl|(apply CellV.blk;(repeat (first|exact List.Mem.head _|apply List.Mem.tail));rfl)))|(apply LdV.aggBlk;(repeat (first|exact List.Mem.head _|apply List.Mem.tail));rfl)|(apply LdV.part;(repeat (first|exact List.Mem.head _|apply List.Mem.tail));rfl;rfl)|(apply LdV.aggRow;assumption;rfl)|(apply LdV.partRow;assumption;rfl;rfl))))) (hv3:ResV (fctx P F N (fun e w'=>e=.returned u∧Below w0.heap.size w0 w') w0) st M r3 v3:=by (first|(apply ResV.tmp;rfl)|(apply ResV.cell;rfl;(first|(apply LdV.one;(first|exact CellV.row0 (by assumption) rfl|exact CellV.rowS (by assumption) rfl|exact CellV.rowSS (by assumption) rfl|(apply CellV.blk;(repeat (first|exact List.Mem.head _|apply List.Mem.tail));rfl)))|(apply LdV.aggBlk;(repeat (first|exact List.Mem.head _|apply List.Mem.tail));rfl)|(apply LdV.part;(repeat (first|exact List.Mem.head _|apply List.Mem.tail));rfl;rfl)|(apply LdV.aggRow;assumption;rfl)|(apply LdV.partRow;assumption;rfl;rfl))))) :
  J (fctx P F N (fun e w'=>e=.returned u∧Below w0.heap.size w0 w') w0) st M (.code .ret::k):=ret3 hf hr (fun _ hw=>⟨hR,hw.below⟩) hv1 hv2 hv3
end
structure Hold (Q:Prop):Type where
 h:Q
def Hold.r {A B:Prop} (k:Hold (A∧B)):Hold B:=⟨k.h.2⟩
theorem Hold.l {A B:Prop} (k:Hold (A∧B)):A:=k.h.1
theorem J.regL' {id:Nat}{l:List Oper} (hm:C.P.follows .mixedOrders=true)
  (hB:(quietOps l.dropLast && (decide ((pqr 0 (l.length-1)).size=l.length) && (planB l.toArray (Array.replicate l.length false) (pqr 0 (l.length-1)) && (Region.noSelect l.toArray && noDefer l))))=true)
  (h:G (.any (pqr 0 (l.length-1))) C l st M (opsOf l (pqr 0 (l.length-1))) k):J C st M (.code (.region id l.toArray true)::k):=by
 rw [Bool.and_eq_true] at hB
 exact J.regL hm hB.2 h
theorem go {P Q:Prop} (k:Q) (h:Hold Q→P:=by
 intro k
 repeat' (first|(apply G.pu;rfl;rfl;first|exact trivial|omega)|(apply J.ct;rfl)|(apply G.nil;rfl)|(apply G.cm;rfl;rfl;all_goals intro hzz;all_goals try (exfalso;omega))|(apply G.fa;rfl;rfl)|(apply G.ld;rfl;(first|(apply LdV.one;(first|exact CellV.row0 (by assumption) rfl|exact CellV.rowS (by assumption) rfl|exact CellV.rowSS (by assumption) rfl|(apply CellV.blk;(repeat (first|exact List.Mem.head _|apply List.Mem.tail));rfl)))|(apply LdV.aggBlk;(repeat (first|exact List.Mem.head _|apply List.Mem.tail));rfl)|(apply LdV.part;(repeat (first|exact List.Mem.head _|apply List.Mem.tail));rfl;rfl)|(apply LdV.aggRow;assumption;rfl)|(apply LdV.partRow;assumption;rfl;rfl));rfl)|(apply G.sk;rfl)|(apply G.ls;rfl;rfl)|(apply G.ix;rfl;rfl;rfl;omega;rfl)|(apply G.ix;rfl;rfl;(first|exact sub_one _|exact add_one' _);omega;rfl)|(apply G.ix (i:=0);rfl;rfl;rfl;omega;rfl)|(apply G.lt;rfl;rfl)|(apply G.bu;rfl;rfl;rfl)|(apply G.nc;rfl;rfl)|(apply G.fd;rfl;rfl;rfl)|(apply G.cv;rfl;rfl;rfl;omega)|(apply G.beq;rfl;rfl;rfl)|(apply G.bne;rfl;rfl;rfl)|(apply G.mm;rfl;rfl)|(apply G.mf;rfl;rfl)|(apply G.mx;rfl;rfl;rfl)|(apply G.mn;rfl;rfl;rfl)|(apply G.bx;rfl;rfl;rfl;intro Bkz)|(apply G.al;rfl;intro Bkz)|(apply G.so;rfl;rfl;(repeat (first|exact RAt.head|apply RAt.tail));rfl;rfl)|(apply G.ss;rfl;rfl;(repeat (first|exact RAt.head|apply RAt.tail));rfl;rfl)|(apply J.regQ;exact Tryd.mixed;decide +kernel)|(apply J.regL';exact Tryd.mixed;decide +kernel)|apply J.reg)
 all_goals ((repeat (first|revert hzz|revert Bkz));(repeat replace k:=Hold.r k);apply Hold.l k)
 all_goals exact True):P:=h ⟨k⟩
theorem goR {P Q:Prop} (k:Q) (h:Hold Q→P:=by
 intro k
 repeat' (first|(apply G.pu;rfl;rfl;first|exact trivial|omega)|(apply J.ct;rfl)|(apply G.nil;rfl)|(apply G.cm;rfl;rfl;all_goals intro hzz;all_goals try (exfalso;omega))|(apply G.fa;rfl;rfl)|(apply G.ld;rfl;(first|(apply LdV.one;(first|exact CellV.row0 (by assumption) rfl|exact CellV.rowS (by assumption) rfl|exact CellV.rowSS (by assumption) rfl|(apply CellV.blk;(repeat (first|exact List.Mem.head _|apply List.Mem.tail));rfl)))|(apply LdV.aggBlk;(repeat (first|exact List.Mem.head _|apply List.Mem.tail));rfl)|(apply LdV.part;(repeat (first|exact List.Mem.head _|apply List.Mem.tail));rfl;rfl)|(apply LdV.aggRow;assumption;rfl)|(apply LdV.partRow;assumption;rfl;rfl));rfl)|(apply G.sk;rfl)|(apply G.ls;rfl;rfl)|(apply G.ix;rfl;rfl;rfl;omega;rfl)|(apply G.ix;rfl;rfl;(first|exact sub_one _|exact add_one' _);omega;rfl)|(apply G.ix (i:=0);rfl;rfl;rfl;omega;rfl)|(apply G.lt;rfl;rfl)|(apply G.bu;rfl;rfl;rfl)|(apply G.nc;rfl;rfl)|(apply G.fd;rfl;rfl;rfl)|(apply G.cv;rfl;rfl;rfl;omega)|(apply G.beq;rfl;rfl;rfl)|(apply G.bne;rfl;rfl;rfl)|(apply G.mm;rfl;rfl)|(apply G.mf;rfl;rfl)|(apply G.mx;rfl;rfl;rfl)|(apply G.mn;rfl;rfl;rfl)|(apply G.bx;rfl;rfl;rfl;intro Bkz)|(apply G.al;rfl;intro Bkz)|(apply G.so;rfl;rfl;(repeat (first|exact RAt.head|apply RAt.tail));rfl;rfl)|(apply G.ss;rfl;rfl;(repeat (first|exact RAt.head|apply RAt.tail));rfl;rfl)|apply J.reg)
 all_goals ((repeat (first|revert hzz|revert Bkz));(repeat replace k:=Hold.r k);apply Hold.l k)
 all_goals exact True):P:=h ⟨k⟩
theorem goG {P Q:Prop} (k:Q) (h:Hold Q→P:=by
 intro k
 repeat' (first|(apply G.pu;rfl;rfl;first|exact trivial|omega)|(apply G.nil;rfl)|(apply G.cm;rfl;rfl;all_goals intro hzz;all_goals try (exfalso;omega))|(apply G.fa;rfl;rfl)|(apply G.ld;rfl;(first|(apply LdV.one;(first|exact CellV.row0 (by assumption) rfl|exact CellV.rowS (by assumption) rfl|exact CellV.rowSS (by assumption) rfl|(apply CellV.blk;(repeat (first|exact List.Mem.head _|apply List.Mem.tail));rfl)))|(apply LdV.aggBlk;(repeat (first|exact List.Mem.head _|apply List.Mem.tail));rfl)|(apply LdV.part;(repeat (first|exact List.Mem.head _|apply List.Mem.tail));rfl;rfl)|(apply LdV.aggRow;assumption;rfl)|(apply LdV.partRow;assumption;rfl;rfl));rfl)|(apply G.sk;rfl)|(apply G.ls;rfl;rfl)|(apply G.ix;rfl;rfl;rfl;omega;rfl)|(apply G.ix;rfl;rfl;(first|exact sub_one _|exact add_one' _);omega;rfl)|(apply G.ix (i:=0);rfl;rfl;rfl;omega;rfl)|(apply G.lt;rfl;rfl)|(apply G.bu;rfl;rfl;rfl)|(apply G.nc;rfl;rfl)|(apply G.fd;rfl;rfl;rfl)|(apply G.cv;rfl;rfl;rfl;omega)|(apply G.beq;rfl;rfl;rfl)|(apply G.bne;rfl;rfl;rfl)|(apply G.mm;rfl;rfl)|(apply G.mf;rfl;rfl)|(apply G.mx;rfl;rfl;rfl)|(apply G.mn;rfl;rfl;rfl)|(apply G.bx;rfl;rfl;rfl;intro Bkz)|(apply G.al;rfl;intro Bkz)|(apply G.so;rfl;rfl;(repeat (first|exact RAt.head|apply RAt.tail));rfl;rfl)|(apply G.ss;rfl;rfl;(repeat (first|exact RAt.head|apply RAt.tail));rfl;rfl))
 all_goals ((repeat (first|revert hzz|revert Bkz));(repeat replace k:=Hold.r k);apply Hold.l k)
 all_goals exact True):P:=h ⟨k⟩
theorem G.cvb {g:FuncId}{args:List Operand}{vs:List Value}{at_:Array TypeId}{v:Value}{w:World} [hF:Fun C.P g]
  (hc:∀ w',Below w.heap.size w w'→Calls C.P g vs.toArray w' fun e w''=>e=.returned v∧Below w'.heap.size w' w'') (h:G q' C all ((d,v)::st) M rest k) (hw:w=C.w0:=by rfl) (ha:evL st args=some vs:=by rfl) (hs:sideB all st gd d C.N q.calm=some q':=by rfl) :
  G q C all st M ({ dst:=some d,op:=.call { callee:=.value (.func g),args:=args.toArray,argTypes:=at_ },type:=ty,pos,after,guard:=gd }::rest) k:=by
 subst hw;exact G.cV ha hs (fun w' hw'=>hc w' hw'.below) h
end Go.Sl
/-
 Maps of the call's own: made,looked up,written,ranged over in whatever order.
-/
namespace Go.Sl
open Go.RowKit
open Go.ChangeMaps (setBlock)
variable {C:Ctx}{st:List (Nat×Value)}{M:List Row}{k:List Item}{q q':Md}{all rest:List Oper}{d:Nat}{opn:Op}{ty:TypeId}{pos:String}{after:Array Edge}{gd:Option (Nat×Bool)}
section
variable {κ:Type} [DecidableEq κ]
def fnd (x:κ):List (κ×Value)→Nat→Option (Nat×Value)
 | [],_=>none
 | (y,v)::r,i=>if x=y then some (i,v) else fnd x r (i+1)
def getM (x:κ):List (κ×Value)→Option Value
 | []=>none
 | (y,v)::r=>if x=y then some v else getM x r
def putM (x:κ) (v:Value):List (κ×Value)→List (κ×Value)
 | []=>[(x,v)]
 | (y,u)::r=>if x=y then (x,v)::r else (y,u)::putM x v r
class TKey (P:Program) (K:TypeId) (kf:κ→Value):Prop where
 chk:∀ e x w,(Instr.checkKey e 10000 K (kf x)).run P w=.ok () w
 find:∀ x (es:List MapEntry) (L:List (κ×Value)) w,es.map (fun e=>(e.key,e.val))=L.map (fun p=>(kf p.1,p.2))→(Instr.findKey K (kf x) es).run P w=.ok (fnd x L 0) w
 same:∀ x,Instr.sameBits 10000 (kf x) (kf x)=true
class TMap (P:Program) (T:TypeId) (K E:outParam TypeId) (z:outParam Value):Prop where
 h1:P.underlying T=some (.map K E)
 h2:∀ w,(zeroValue E).run P w=.ok z w
structure MapIs (kf:κ→Value) (es:Array MapEntry) (clock:Nat) (L:List (κ×Value)):Prop where
 kv:es.toList.map (fun e=>(e.key,e.val))=L.map (fun p=>(kf p.1,p.2))
 born:(es.toList.map (·.born)).Nodup
 lt:∀ e∈es.toList,e.born < clock
 keys:(L.map (·.1)).Nodup
theorem MapIs.nil {kf:κ→Value}:MapIs kf #[] 0 []:=⟨rfl,.nil,by simp,.nil⟩
theorem fnd_none {x:κ}:∀ {L:List (κ×Value)}{i:Nat},fnd x L i=none→getM x L=none∧(∀ v,putM x v L=L++[(x,v)])∧x ∉ L.map (·.1)
 | [],_,_=>⟨rfl,fun _=>rfl,by simp⟩
 | (y,u)::r,i,h=>by
  rw [fnd] at h
  split at h
  ·cases h
  ·rename_i hxy
   obtain ⟨h1,h2,h3⟩:=fnd_none h
   refine ⟨by rw [getM,if_neg hxy];exact h1,fun v=>by rw [putM,if_neg hxy,h2];rfl,?_⟩
   rw [List.map_cons,List.mem_cons]
   exact fun e=>e.elim hxy h3
theorem fnd_some {x:κ}:∀ {L:List (κ×Value)}{i j:Nat}{v:Value},fnd x L i=some (j,v)→∃ n,j=i+n∧L[n]?=some (x,v)∧getM x L=some v∧∀ u,putM x u L=L.set n (x,u)
 | [],_,_,_,h=>by cases h
 | (y,u)::r,i,j,v,h=>by
  rw [fnd] at h
  split at h
  ·rename_i hxy
   cases h
   subst hxy
   exact ⟨0,rfl,rfl,by rw [getM,if_pos rfl],fun w=>by rw [putM,if_pos rfl];rfl⟩
  ·rename_i hxy
   obtain ⟨n,h1,h2,h3,h4⟩:=fnd_some h
   exact ⟨n+1,by omega,by simpa using h2,by rw [getM,if_neg hxy];exact h3,fun w=>by rw [putM,if_neg hxy,h4];rfl⟩
theorem findNow_int {x:Int}:∀ (es:List MapEntry) (L:List (Int×Value)) (i:Nat),es.map (fun e=>(e.key,e.val))=L.map (fun p=>(Value.int .i64 p.1,p.2))→Instr.findNow (.int .i64) (.int .i64 x) es i=some (fnd x L i)
 | [],[],_,_=>rfl
 | [],_::_,_,h=>by simp at h
 | _::_,[],_,h=>by simp at h
 | e::es,(y,v)::L,i,h=>by
  simp only [List.map_cons,List.cons.injEq,Prod.mk.injEq] at h
  obtain ⟨⟨h1,h2⟩,h3⟩:=h
  rw [fnd,Instr.findNow,h1,h2]
  simp only [Instr.sameNow,if_true]
  by_cases hxy:x=y
  ·subst hxy;simp
  ·have:(x == y)=false:=by simpa using hxy
   simp only [this,if_neg hxy]
   exact findNow_int es L (i+1) h3
theorem TKey.int {P:Program}{K:TypeId} (h:P.underlying K=some (.int .i64)):TKey P K (Value.int .i64) where
 chk:=fun e x w=>by rw [show (10000:Nat)=9999+1 from rfl,Instr.checkKey];simp [underlying,h]
 find:=fun x es L w hl=>by simp [Instr.findKey,underlying,h,findNow_int es L 0 hl]
 same:=fun x=>by simp [Instr.sameBits]
theorem nodup_set {L:List (κ×Value)}{n:Nat}{x:κ}{u v:Value} (h:L[n]?=some (x,u)):(L.set n (x,v)).map (·.1)=L.map (·.1):=by
 rw [List.map_set]
 apply List.ext_getElem?
 intro i
 by_cases hi:n=i
 ·subst hi
  have hlt:=(List.getElem?_eq_some_iff.1 h).1
  rw [List.getElem?_set_self (by simpa using hlt),List.getElem?_map,h];rfl
 ·rw [List.getElem?_set_ne hi]
theorem MapIs.upd {kf:κ→Value}{es:Array MapEntry}{clock:Nat}{L:List (κ×Value)} (h:MapIs kf es clock L) {x:κ}{n:Nat}{u v:Value} (hn:L[n]?=some (x,u)):MapIs kf (es.modify n fun e=>{ e with key:=kf x,val:=v }) clock (L.set n (x,v)):=by
 have hlen:es.toList.length=L.length:=by have:=congrArg List.length h.kv;simpa using this
 have hm:(es.modify n fun e=>{ e with key:=kf x,val:=v }).toList=es.toList.modify n fun e=>{ e with key:=kf x,val:=v }:=Array.toList_modify ..
 have hb:(es.toList.modify n fun e=>{ e with key:=kf x,val:=v }).map (·.born)=es.toList.map (·.born):=by
  apply List.ext_getElem?
  intro i
  simp only [List.getElem?_map,List.getElem?_modify]
  cases es.toList[i]? with
  | none=>rfl
  | some e=>by_cases hi:n=i<;>simp [hi]
 refine ⟨?_,by rw [hm,hb];exact h.born,fun e he=>?_,by rw [nodup_set hn];exact h.keys⟩
 ·rw [hm]
  apply List.ext_getElem?
  intro i
  have h1:=congrArg (·[i]?) h.kv
  simp only [List.getElem?_map,List.getElem?_modify] at h1 ⊢
  by_cases hi:n=i
  ·subst hi
   have hlt:=(List.getElem?_eq_some_iff.1 hn).1
   rw [List.getElem?_set_self hlt,List.getElem?_eq_getElem (by omega)]
   simp
  ·rw [List.getElem?_set_ne hi,← h1]
   cases es.toList[i]?<;>simp [hi]
 ·rw [hm] at he
  have:e.born∈es.toList.map (·.born):=by rw [← hb];exact List.mem_map.2 ⟨e,he,rfl⟩
  obtain ⟨e',h1,h2⟩:=List.mem_map.1 this
  rw [← h2];exact h.lt e' h1
theorem MapIs.add {kf:κ→Value}{es:Array MapEntry}{clock:Nat}{L:List (κ×Value)} (h:MapIs kf es clock L) {x:κ}{v:Value} (hx:x ∉ L.map (·.1)):MapIs kf (es.push { key:=kf x,val:=v,born:=clock }) (clock+1) (L++[(x,v)]):=by
 refine ⟨by simp [h.kv],?_,?_,?_⟩
 ·rw [Array.toList_push,List.map_append,List.nodup_append]
  refine ⟨h.born,by simp,fun a ha b hb=>?_⟩
  obtain ⟨e,he,rfl⟩:=List.mem_map.1 ha
  have:=h.lt e he
  simp at hb
  omega
 ·intro e he
  rw [Array.toList_push,List.mem_append] at he
  rcases he with he|he
  ·exact Nat.lt_succ_of_lt (h.lt e he)
  ·simp at he;subst he;exact Nat.lt_succ_self _
 ·rw [List.map_append,List.nodup_append]
  exact ⟨h.keys,by simp,fun a ha b hb=>by simp at hb;subst hb;exact fun e=>hx (e ▸ ha)⟩
theorem Sat.objRow {w0 w:World} (h:Sat w0 M w) {b:Nat}{o:Obj} (hm:Row.obj b o∈M):w.heap[b]?=some o:=h.hold _ hm
theorem G.mkm {T:TypeId} (hs:sideB all st gd d C.N q.ext=some q') (h:∀ B,G q' C all ((d,.map (some B))::st) (.obj B (.map #[] 0)::M) rest k) :
  G q C all st M ({ dst:=some d,op:=.makeMap T none,type:=ty,pos,after,guard:=gd }::rest) k:=by
 obtain ⟨g1,g2,g3⟩:=sideB_ok hs
 refine G.ext g1 rfl g3 (Eff.val g2 fun a w hf hw=>⟨_,w.alloc (.map #[] 0),_,by simp [execOp,Instr.makeMap],?_,List.sublist_cons_self _ _,h w.heap.size⟩)
 refine hw.new ((Below.refl _ _).alloc (Nat.le_refl _) _) (r:=.obj w.heap.size (.map #[] 0)) (heap_alloc_new _ _) (Nat.zero_le _) fun b hb=>?_
 cases hb
 exact ⟨Nat.le_refl _,by simp⟩
theorem lookup_run {P:Program}{T K E:TypeId}{z:Value}{kf:κ→Value} [hT:TMap P T K E z] [hK:TKey P K kf] {es:Array MapEntry}{clock b:Nat}{L:List (κ×Value)} (h:MapIs kf es clock L) {w:World} (hb:w.heap[b]?=some (.map es clock)) (x:κ) (ok:Bool) :
  (Instr.lookup T (.map (some b)) (kf x) ok).run P w=.ok (if ok then .tuple #[(getM x L).getD z,.bool (getM x L).isSome] else (getM x L).getD z) w:=by
 have h1:=hK.find x es.toList L w h.kv
 have h0:∀ w,(underlying T).run P w=.ok (.map K E) w:=fun w=>by simp [underlying,hT.h1]
 simp only [Instr.lookup,Sem.run_bind,h0,Result.andThen_ok,getObj,Sem.run,hb,hK.chk]
 simp only [Result.andThen_ok,h1,Sem.run_bind,Sem.run_pure]
 cases hf:fnd x L 0 with
 | none =>
  rw [(fnd_none hf).1]
  simp only [Sem.run_bind,hT.h2,Result.andThen_ok]
  cases ok<;>rfl
 | some p =>
  obtain ⟨j,v⟩:=p
  obtain ⟨n,_,_,h2,_⟩:=fnd_some hf
  rw [h2]
  cases ok<;>rfl
theorem G.lk {T K E b:TypeId}{z v:Value}{kf:κ→Value}{es:Array MapEntry}{clock:Nat}{L:List (κ×Value)}{x y:Operand}{a:κ} (hI:MapIs kf es clock L) (hx:evS st x=some (.map (some b))) (hy:evS st y=some (kf a)) (hm:Row.obj b (.map es clock)∈q.cls M) [hT:TMap C.P T K E z] [hK:TKey C.P K kf] (hv:(getM a L).getD z=v)
  (hs:sideB all st gd d C.N q.calm=some q') (h:G q' C all ((d,v)::st) M rest k):G q C all st M ({ dst:=some d,op:=.lookup T x y false,type:=ty,pos,after,guard:=gd }::rest) k:=by
 obtain ⟨g1,g2,g3⟩:=sideB_ok hs
 subst hv
 refine G.op (OpV.of fun ac w hf hw dst pos after guard=>?_) g1 rfl g2 g3 h
 have:=lookup_run (P:=C.P) (T:=T) (K:=K) (E:=E) (z:=z) hI (hw.objRow hm) a false
 simp only [execOp,hf.eval hx,hf.eval hy,Sem.run_bind,this,Result.andThen_ok];rfl
theorem setObj_map {P:Program}{w:World}{r:Nat}{es es':Array MapEntry}{c c':Nat} (hr:w.heap[r]?=some (.map es c)):(setObj r (.map es' c')).run P w=.ok () (setBlock w r (.map es' c')):=by
 simp [setObj,Sem.run,hr,setBlock]
theorem Sat.obj {w0 w:World} (h:Sat w0 M w) {i b:Nat}{o o':Obj} (hi:M[i]?=some (.obj b o)):Sat w0 (M.set i (.obj b o')) (setBlock w b o'):=by
 have h1:w.heap[b]?=some o:=h.hold _ (List.mem_of_getElem? hi)
 have hb:b < w.heap.size:=(Array.getElem?_eq_some_iff.1 h1).1
 refine h.change hi rfl rfl rfl (by simp [setBlock]) (fun k hk hk'=>?_) ?_ (Nat.zero_le _) fun b' hb'=>⟨.inl hb',by cases hb';simpa [setBlock] using hb⟩
 ·have:b≠k:=fun e=>hk' e.symm
  simp [setBlock,Array.getElem?_setIfInBounds_ne this]
 ·show (setBlock w b o').heap[b]?=some o'
  simp [setBlock,hb]
theorem Sat.draw {w0 w:World} (h:Sat w0 M w):Sat w0 M w.drew:=h.ext ⟨rfl,rfl,rfl,Nat.le_refl _,fun _ _=>rfl⟩
theorem update_run {P:Program}{T K E:TypeId}{z:Value}{kf:κ→Value} [hT:TMap P T K E z] [hK:TKey P K kf] {es:Array MapEntry}{clock b:Nat}{L:List (κ×Value)} (h:MapIs kf es clock L) {w:World} (hb:w.heap[b]?=some (.map es clock)) (x:κ) (v:Value) :
  ∃ es' clock',MapIs kf es' clock' (putM x v L)∧(Instr.mapUpdate T (.map (some b)) (kf x) v).run P w=.ok () (setBlock w b (.map es' clock')):=by
 have h1:=hK.find x es.toList L w h.kv
 have h0:∀ w,(underlying T).run P w=.ok (.map K E) w:=fun w=>by simp [underlying,hT.h1]
 have hlen:es.toList.length=L.length:=by have:=congrArg List.length h.kv;simpa using this
 simp only [Instr.mapUpdate,Sem.run_bind,h0,Result.andThen_ok,getObj,Sem.run,hb,hK.chk]
 simp only [Result.andThen_ok,h1,Sem.run_bind]
 cases hf:fnd x L 0 with
 | none =>
  obtain ⟨_,h3,h4⟩:=fnd_none hf
  rw [h3 v]
  exact ⟨_,_,h.add h4,by simp only [];exact setObj_map hb⟩
 | some p =>
  obtain ⟨j,u⟩:=p
  obtain ⟨n,h2,h3,_,h4⟩:=fnd_some hf
  rw [Nat.zero_add] at h2
  subst h2
  rw [h4 v]
  have hlt:=(List.getElem?_eq_some_iff.1 h3).1
  have hkey:((es[j]?).map (·.key)).getD (kf x)=kf x:=by
   have h5:=congrArg (·[j]?) h.kv
   simp only [List.getElem?_map,h3] at h5
   rw [← Array.getElem?_toList]
   cases he:es.toList[j]? with
   | none=>rfl
   | some e=>rw [he] at h5;simp at h5;simp [h5.1]
  refine ⟨_,_,h.upd h3,?_⟩
  simp only [hkey,Instr.keyThatStays,hK.same,if_true,Sem.run_bind]
  simp only [Sem.run_pure,Result.andThen_ok]
  exact setObj_map hb
theorem G.mu {T K E b:TypeId}{z v:Value}{kf:κ→Value}{es:Array MapEntry}{clock:Nat}{L L':List (κ×Value)}{x y u:Operand}{a:κ}{F:Row→List Row} (hI:MapIs kf es clock L) (hL:putM a v L=L') (hs:wqB all st gd q.res=some q') (hx:evS st x=some (.map (some b))) (hy:evS st y=some (kf a)) (hu:evS st u=some v) (hm:RAt (.obj b (.map es clock)) M F) [hT:TMap C.P T K E z] [hK:TKey C.P K kf]
  (h:∀ es' clock',MapIs kf es' clock' L'→G q' C all st (F (.obj b (.map es' clock'))) rest k):G q C all st M ({ dst:=none,op:=.mapUpdate T x y u,type:=ty,pos,after,guard:=gd }::rest) k:=by
 obtain ⟨g1,g3⟩:=wqB_ok hs
 obtain ⟨i,h5,h6⟩:=hm.idx
 subst hL
 refine G.res g1 rfl g3 (Eff.unit fun ac w hf hw=>?_)
 obtain ⟨es',c',h7,h8⟩:=update_run (P:=C.P) (T:=T) (K:=K) (E:=E) (z:=z) hI (hw.hold _ (List.mem_of_getElem? h5)) a v
 refine ⟨_,_,?_,hw.obj h5 (o':=.map es' c'),by rw [h6];exact h es' c' h7⟩
 simp only [execOp,hf.eval hx,hf.eval hy,hf.eval hu,Sem.run_bind,h8,Result.andThen_ok];rfl
def Rem (kf:κ→Value) (es:Array MapEntry) (seen:Array Nat) (R:List (κ×Value)):Prop:=((leftOf es seen).toList.map fun e=>(e.key,e.val))=R.map fun p=>(kf p.1,p.2)
theorem Rem.start {kf:κ→Value}{es:Array MapEntry}{clock:Nat}{L:List (κ×Value)} (h:MapIs kf es clock L):Rem kf es #[] L:=by
 unfold Rem
 rw [show leftOf es #[]=es by simp [leftOf]]
 exact h.kv
theorem filter_erase {p p':MapEntry→Bool}{e:MapEntry}{i:Nat}:∀ {l:List MapEntry},(l.map (·.born)).Nodup→(l.filter p)[i]?=some e→(∀ x,p' x=(p x && !(x.born == e.born)))→l.filter p'=(l.filter p).eraseIdx i
 | [],_,h,_=>by simp at h
 | x::l,hn,h,hp=>by
  have hn':=List.nodup_cons.1 hn
  by_cases hx:p x=true
  ·rw [List.filter_cons_of_pos hx] at h ⊢
   cases i with
   | zero =>
    simp only [List.getElem?_cons_zero,Option.some.injEq] at h
    subst h
    rw [List.eraseIdx_cons_zero,List.filter_cons_of_neg (by simp [hp])]
    apply List.filter_congr
    intro y hy
    rw [hp]
    have:(y.born == x.born)=false:=by
     rw [beq_eq_false_iff_ne]
     exact fun e=>hn'.1 (by show x.born∈_;rw [← e];exact List.mem_map.2 ⟨y,hy,rfl⟩)
    simp [this]
   | succ i =>
    rw [List.getElem?_cons_succ] at h
    have he:e∈l:=(List.mem_filter.1 (List.mem_of_getElem? h)).1
    have:(x.born == e.born)=false:=by
     rw [beq_eq_false_iff_ne]
     exact fun e'=>hn'.1 (by show x.born∈_;rw [e'];exact List.mem_map.2 ⟨e,he,rfl⟩)
    rw [List.filter_cons_of_pos (by simp [hp,hx,this]),List.eraseIdx_cons_succ,filter_erase hn'.2 h hp]
  ·rw [List.filter_cons_of_neg hx] at h ⊢
   rw [List.filter_cons_of_neg (by simp [hp,hx]),filter_erase hn'.2 h hp]
theorem G.rg {T K E b:TypeId}{z:Value}{es:Array MapEntry}{clock:Nat}{x:Operand} (hx:evS st x=some (.map (some b))) (hm:Row.obj b (.map es clock)∈M) [hT:TMap C.P T K E z] (hs:sideB all st gd d C.N q.ext=some q')
  (h:∀ B,G q' C all ((d,.pointer (some ⟨B,0,none⟩))::st) (.obj B (.mapIter (some b) clock #[] clock)::M) rest k):G q C all st M ({ dst:=some d,op:=.range T x,type:=ty,pos,after,guard:=gd }::rest) k:=by
 obtain ⟨g1,g2,g3⟩:=sideB_ok hs
 refine G.ext g1 rfl g3 (Eff.val g2 fun a w hf hw=>⟨_,w.alloc (.mapIter (some b) clock #[] clock),_,?_,?_,List.sublist_cons_self _ _,h w.heap.size⟩)
 ·have:=run_range_map (P:=C.P) w T K E b es clock hT.h1 (hw.objRow hm)
  simp only [execOp,hf.eval hx,Sem.run_bind,this,Result.andThen_ok];rfl
 ·refine hw.new ((Below.refl _ _).alloc (Nat.le_refl _) _) (r:=.obj w.heap.size _) (heap_alloc_new _ _) (Nat.zero_le _) fun b hb=>?_
  cases hb
  exact ⟨Nat.le_refl _,by simp⟩
theorem leftOf_push {es:Array MapEntry}{seen:Array Nat}{e:MapEntry}{i:Nat} (hn:(es.toList.map (·.born)).Nodup) (h:(leftOf es seen).toList[i]?=some e):(leftOf es (seen.push e.born)).toList=(leftOf es seen).toList.eraseIdx i:=by
 unfold leftOf at h ⊢
 rw [Array.toList_filter] at h ⊢
 rw [Array.toList_filter]
 refine filter_erase hn h fun x=>?_
 rw [Array.contains_push,Bool.not_or]
theorem G.nx1 {b r:TypeId}{kf:κ→Value}{es:Array MapEntry}{clock:Nat}{seen:Array Nat}{L R:List (κ×Value)}{x:Operand}{t:TypeId}{F:Row→List Row} (hI:MapIs kf es clock L) (hR:Rem kf es seen R) (h0:R≠[]) (hs:sideB all st gd d C.N q.res=some q') (hx:evS st x=some (.pointer (some ⟨r,0,none⟩))) (hm:RAt (.obj r (.mapIter (some b) clock seen clock)) M F) (hb:Row.obj b (.map es clock)∈M)
  (h:∀ i,(hi:i < R.length)→∀ seen',Rem kf es seen' (R.eraseIdx i)→(∃ e∈es.toList,seen'=seen.push e.born∧e.key=kf R[i].1∧e.val=R[i].2)→G q' C all ((d,.tuple #[.bool true,kf R[i].1,R[i].2])::st) (F (.obj r (.mapIter (some b) clock seen' clock))) rest k) :
  G q C all st M ({ dst:=some d,op:=.next x false,type:=t,pos,after,guard:=gd }::rest) k:=by
 obtain ⟨g1,g2,g3⟩:=sideB_ok hs
 obtain ⟨j,h5,h6⟩:=hm.idx
 refine G.res g1 rfl g3 (Eff.val g2 fun ac w hf hw=>?_)
 rcases run_next_at (P:=C.P) w t r b clock clock seen es clock (hw.hold _ (List.mem_of_getElem? h5)) (hw.objRow hb) hI.lt (Nat.le_refl _) with ⟨h1,_⟩|⟨e,he,w1,h1,h2⟩
 ·exfalso
  unfold Rem at hR
  have:=congrArg List.length hR
  simp only [List.length_map,Array.length_toList] at this
  exact h0 (List.length_eq_zero_iff.1 (this ▸ h1))
 ·obtain ⟨i,hi⟩:=List.mem_iff_getElem?.1 he
  have hR':=congrArg (·[i]?) hR
  simp only [List.getElem?_map,hi,Option.map_some] at hR'
  have hil:i < R.length:=by
   rcases Nat.lt_or_ge i R.length with h|h
   ·exact h
   ·rw [List.getElem?_eq_none h] at hR';simp at hR'
  rw [List.getElem?_eq_getElem hil] at hR'
  simp only [Option.map_some,Option.some.injEq,Prod.mk.injEq] at hR'
  have h3:Sat C.w0 M w1:=by
   rcases h1 with rfl|rfl
   ·exact hw
   ·exact hw.draw
  have hmem:e∈es.toList:=(mem_left he).1
  have hrem:Rem kf es (seen.push e.born) (R.eraseIdx i):=by
   unfold Rem
   rw [leftOf_push hI.born hi,List.eraseIdx_eq_take_drop_succ,List.eraseIdx_eq_take_drop_succ,List.map_append,List.map_append,List.map_take,List.map_drop,List.map_take,List.map_drop]
   unfold Rem at hR
   rw [hR]
  refine ⟨_,_,_,?_,h3.obj h5 (o':=.mapIter (some b) clock (seen.push e.born) clock),by rw [h6];exact h i hil _ hrem ⟨e,hmem,rfl,hR'.1,hR'.2⟩⟩
  simp only [execOp,hf.eval hx,Sem.run_bind,h2,Result.andThen_ok,hR'.1,hR'.2];rfl
theorem G.nx0 {b r:TypeId}{kf:κ→Value}{es:Array MapEntry}{clock:Nat}{seen:Array Nat}{L:List (κ×Value)}{x:Operand}{t:TypeId} (hI:MapIs kf es clock L) (hR:Rem kf es seen ([]:List (κ×Value))) (hs:sideB all st gd d C.N q.calm=some q') (hx:evS st x=some (.pointer (some ⟨r,0,none⟩))) (hm:Row.obj r (.mapIter (some b) clock seen clock)∈q.cls M) (hb:Row.obj b (.map es clock)∈q.cls M)
  (h:G q' C all ((d,.tuple #[.bool false])::st) M rest k):G q C all st M ({ dst:=some d,op:=.next x false,type:=t,pos,after,guard:=gd }::rest) k:=by
 obtain ⟨g1,g2,g3⟩:=sideB_ok hs
 refine G.op (OpV.of fun ac w hf hw dst pos after guard=>?_) g1 rfl g2 g3 h
 rcases run_next_at (P:=C.P) w t r b clock clock seen es clock (hw.objRow hm) (hw.objRow hb) hI.lt (Nat.le_refl _) with ⟨_,h2⟩|⟨e,he,w1,h1,h2⟩
 ·simp only [execOp,hf.eval hx,Sem.run_bind,h2,Result.andThen_ok];rfl
 ·exfalso
  unfold Rem at hR
  have:=congrArg List.length hR
  simp only [List.length_map,List.map_nil,List.length_nil] at this
  rw [List.length_eq_zero_iff.1 this] at he
  cases he
theorem G.en {b r:TypeId}{kf:κ→Value}{es:Array MapEntry}{clock:Nat}{seen seen':Array Nat}{L:List (κ×Value)}{x:Operand}{e:MapEntry}{u v:Value} (hI:MapIs kf es clock L) (he:e∈es.toList) (hsn:seen'=seen.push e.born) (hu:e.key=u) (hv:e.val=v) (hs:sideB all st gd d C.N q.calm=some q') (hx:evS st x=some (.pointer (some ⟨r,0,none⟩))) (hm:Row.obj r (.mapIter (some b) clock seen' clock)∈q.cls M) (hb:Row.obj b (.map es clock)∈q.cls M)
  (h:G q' C all ((d,.tuple #[u,v])::st) M rest k):G q C all st M ({ dst:=some d,op:=.entry x,type:=ty,pos,after,guard:=gd }::rest) k:=by
 obtain ⟨g1,g2,g3⟩:=sideB_ok hs
 subst hsn hu hv
 refine G.op (OpV.of fun ac w hf hw dst pos after guard=>?_) g1 rfl g2 g3 h
 have:=run_entry_at (P:=C.P) w r b clock seen es clock e (hw.objRow hm) (hw.objRow hb) he hI.born
 simp only [execOp,hf.eval hx,Sem.run_bind,this,Result.andThen_ok];rfl
end
theorem Sat.swap {w0 w:World} (h:Sat w0 M w) {i:Nat}{r r':Row} (hi:M[i]?=some r) (hr:r'.hold w) (hb:r'.base=0) (hs:∀ b,r'.sup b→r.lock b):Sat w0 (M.set i r') w :=
 h.change hi rfl rfl rfl (Nat.le_refl _) (fun _ _ _=>rfl) hr (by omega) fun b hb'=>⟨.inl (hs b hb'),((h.old r (List.mem_of_getElem? hi)).2 b (Row.lock_sup (hs b hb'))).2⟩
inductive Pick (r:Row):List Row→List Row→Prop
 | head {M:List Row}:Pick r (r::M) M
 | tail {s:Row}{M M':List Row} (h:Pick r M M'):Pick r (s::M) (s::M')
theorem Pick.perm {r:Row}{M M':List Row} (h:Pick r M M'):M.Perm (r::M'):=by
 induction h with
 | head=>exact .refl _
 | tail _ ih=>exact (List.Perm.cons _ ih).trans (List.Perm.swap _ _ _)
theorem G.cI {g:FuncId}{args:List Operand}{vs:List Value}{at_:Array TypeId}{v:Value}{M1:List Row} (ha:evL st args=some vs) (hs:sideB all st gd d C.N q.ext=some q') [hF:Fun C.P g] (hp:M.Perm M1)
  (hc:∀ w,Sat C.w0 M1 w→Calls C.P g vs.toArray w fun e w'=>e=.returned v∧Sat C.w0 M1 w') (h:G q' C all ((d,v)::st) M rest k) :
  G q C all st M ({ dst:=some d,op:=.call { callee:=.value (.func g),args:=args.toArray,argTypes:=at_ },type:=ty,pos,after,guard:=gd }::rest) k:=by
 obtain ⟨g1,g2,g3⟩:=sideB_ok hs
 exact G.call0 (X:=Unit) (v:=fun _=>v) (Mn:=fun _=>[]) g1 g2 g3 ha (fun w hw=>(hc w (hw.perm hp)).mono fun e w' he=>⟨(),he.1,he.2.perm hp.symm⟩) fun _=>h
section
variable {P:Program}{F:FuncId}{N:Nat}{R:Ending→World→Prop}{w0:World}{fn:Func}
theorem ret0 (hf:P.funcs[F]?=some fn) (hr:fn.results=#[]) (hR:∀ w,Sat w0 M w→R (.returned (.tuple #[])) w):J (fctx P F N R w0) st M (.code .ret::k):=leave hf (RunsTo.zero hr) hR
theorem end0 (hf:P.funcs[F]?=some fn) (hr:fn.results=#[]) (hR:∀ w,Sat w0 M w→R (.returned (.tuple #[])) w):J (fctx P F N R w0) st M []:=leaveEnd hf (RunsTo.zero hr) hR
theorem enterR {c:Code}{args:Array Value}{w:World} (st:List (Nat×Value)) (hw:Sat w0 M w) (hf:P.funcs[F]?=some fn) (hN:fn.ntmps=N) (h:J (fctx P F N R w0) st M [.code c])
  (hb:fn.body=some c:=by rfl) (ha:(args.size≤N)=True:=by simp) (hst:ArgsOk args st:=by (repeat' (first|exact trivial|refine ⟨rfl,?_⟩))):Calls P F args w R:=enterM st hw hf hb hN ha hst h
end
end Go.Sl
/-
 Ranges over functions with two values,whose rounds may leave the loop.
-/
namespace Go.Sl
open Go.RowKit
variable {C:Ctx}{st:List (Nat×Value)}{M:List Row}{k:List Item}{q q':Md}{all rest:List Oper}{d:Nat}{ty:TypeId}{pos:String}{after:Array Edge}{gd:Option (Nat×Bool)}
def loopAt (r:Loop):Option Code→Loop
 | none=>r
 | some c=>{ r with state:=.done,pending:=some c }
def loopSt:Option Code→LoopState
 | none=>.ready
 | some _=>.done
def RoundR (w0:World) (L:Nat) (r:Loop) {X:Type} (Rs:X→List Row) (M':List Row) (Go:X→Prop) (Out:Code→X→Prop) (v:Value) (w':World):Prop :=
 ∃ x',(v=.bool true∧Go x'∧Sat w0 (.obj L (.loop r)::Rs x'++M') w')∨∃ c,v=.bool false∧Out c x'∧Sat w0 (.obj L (.loop (loopAt r (some c)))::Rs x'++M') w'
section
variable {P:Program}{l:Nat}{F:FuncId}{N:Nat}{w0:World}{r:Loop}{X:Type}{Rs:X→List Row}{M':List Row}{Gt:X→Prop}{Out:Code→X→Prop}
theorem leaveG (h1:r.state=.ready) (h2:r.pending=none) (x:X) (hx:Gt x) (hM:M=.obj l (.loop (busy r))::Rs x++M'):J (rctx P l F N (RoundR w0 l r Rs M' Gt Out) w0) st M []:=by
 subst hM
 exact leaveR h1 h2 (i:=0) rfl fun w' hw'=>⟨x,.inl ⟨rfl,hx,hw'⟩⟩
theorem leaveGret (x:X) (hx:Out .ret x) (hM:M=.obj l (.loop (busy r))::Rs x++M'):J (rctx P l F N (RoundR w0 l r Rs M' Gt Out) w0) st M (.code .ret::k):=by
 subst hM
 exact leaveRoundRet (i:=0) rfl fun w' hw'=>⟨x,.inr ⟨.ret,rfl,hx,hw'⟩⟩
end
inductive Splt (T:List Row):List Row→List Row→Prop
 | nil:Splt T T []
 | cons {r:Row}{M K:List Row} (h:Splt T M K):Splt T (r::M) (r::K)
theorem Splt.eq {T M K:List Row} (h:Splt T M K):M=K++T:=by
 induction h with
 | nil=>rfl
 | cons _ ih=>rw [ih];rfl
theorem G.callG {X:Type}{Rs:X→List Row}{x:X}{K M1:List Row}{f:Operand}{args:List Operand}{vs:List Value}{fv:Value}{at_:Array TypeId} (Ok Out:X→Prop)
  (hc:∀ M' w,Sat C.w0 (Rs x++M') w→CallsV C.P fv vs w fun v w'=>∃ x',Sat C.w0 (Rs x'++M') w'∧(v=.bool true∧Ok x'∨v=.bool false∧Out x'))
  (hf:evS st f=some fv) (ha:evL st args=some vs) (hw:wnB all st gd=true) (hd:Nat.blt d C.N=true) (hM:Splt (Rs x++M1) M K)
  (h1:∀ x',Ok x'→G .seq C all ((d,.bool true)::st) (K++(Rs x'++M1)) rest k) (h2:∀ x',Out x'→G .seq C all ((d,.bool false)::st) (K++(Rs x'++M1)) rest k) :
  G .seq C all st M ({ dst:=some d,op:=.call { callee:=.value f,args:=args.toArray,argTypes:=at_ },type:=ty,pos,after,guard:=gd }::rest) k:=by
 have hp:∀ y,(K++(Rs y++M1)).Perm (Rs y++(K++M1)):=fun y=>perm_cat [K,Rs y,M1] [0,1,2] [1,0,2] rfl
 refine G.callY (X:={ p:X×Bool // p.2=true∧Ok p.1∨p.2=false∧Out p.1 }) (fun p=>.bool p.1.2) (fun p=>K++(Rs p.1.1++M1)) hw hd hf ha (fun w hs=>?_) fun p=>?_
 ·rw [hM.eq] at hs
  refine (hc (K++M1) w (hs.perm (hp x))).mono fun v w' ⟨x',h3,h4⟩=>?_
  rcases h4 with ⟨rfl,h4⟩|⟨rfl,h4⟩
  ·exact ⟨⟨(x',true),.inl ⟨rfl,h4⟩⟩,rfl,h3.perm (hp x').symm⟩
  ·exact ⟨⟨(x',false),.inr ⟨rfl,h4⟩⟩,rfl,h3.perm (hp x').symm⟩
 ·obtain ⟨⟨y,b⟩,h4⟩:=p
  rcases h4 with ⟨e,h4⟩|⟨e,h4⟩
  ·dsimp only at e;subst e;exact h1 y h4
  ·dsimp only at e;subst e;exact h2 y h4
end Go.Sl
/-
 Families of slices that nobody writes;own slices that are opened,cut and closed.
-/
namespace Go.Sl
open Go.RowKit
variable {C:Ctx}{st:List (Nat×Value)}{M:List Row}{k:List Item}{q q':Md}{all rest:List Oper}{d:Nat}{opn:Op}{ty:TypeId}{pos:String}{after:Array Edge}{gd:Option (Nat×Bool)}
theorem Sat.noLock {w0 w:World} (hw:Sat w0 M w) {s r:Row} (hm:s∈M) (hs:∀ b,¬ s.lock b) (hr:r∈M) {b:Nat} (hb:s.sup b):¬ r.lock b:=fun hl=>by
 have hp:=List.pairwise_iff_getElem.1 hw.apart
 obtain ⟨i,hi,ei⟩:=List.mem_iff_getElem.1 hr
 obtain ⟨j,hj,ej⟩:=List.mem_iff_getElem.1 hm
 rcases Nat.lt_trichotomy i j with h1|h1|h1
 ·exact (hp i j hi hj h1 b).1 (by rw [ei];exact hl) (by rw [ej];exact hb)
 ·subst h1
  rw [ei] at ej;subst ej;exact hs b hl
 ·exact (hp j i hj hi h1 b).2 (by rw [ei];exact hl) (by rw [ej];exact hb)
def famRow (N:Nat) {A:Type} (adr:A→Option Addr) (sz:Nat) (L:A→List (List Value)) (o:List A):Row :=
 .fact N (fun b=>∃ r∈o,slSup N (adr r) (L r) b) (fun w=>∀ r∈o,SlAt w (adr r) sz (L r)) fun w w' h hw r hr=>slKeep w w' (fun b hb=>h b (hb.imp id fun hb=>⟨r,hr,hb⟩)) (hw r hr)
section
variable {A:Type}{adr:A→Option Addr}{sz N:Nat}{L:A→List (List Value)}{o o':List A}
theorem Sat.fam {w0 w:World} (h:Sat w0 M w) (hm:famRow N adr sz L o∈M):∀ r∈o,SlAt w (adr r) sz (L r):=h.hold _ hm
theorem J.fam0 (adr:A→Option Addr) (sz:Nat) (L:A→List (List Value)) (h:J C st (famRow C.w0.heap.size adr sz L []::M) k):J C st M k:=.mk fun a w hf hd hw =>
 h.go a w hf hd (hw.addFact (Nat.le_refl _) (fun r hr=>by cases hr) fun b hb=>by obtain ⟨r,hr,_⟩:=hb;cases hr)
theorem Sat.famSub {w0 w:World} (hw:Sat w0 M w) (hm:famRow N adr sz L o∈M) (hs:∀ r∈o',r∈o):Sat w0 (famRow N adr sz L o'::M) w:=by
 have ho:=hw.old _ hm
 refine hw.addFact ho.1 (fun r hr=>hw.fam hm r (hs r hr)) fun b hb=>?_
 obtain ⟨r,hr,h1⟩:=hb
 have h2:(famRow N adr sz L o).sup b:=⟨r,hs r hr,h1⟩
 exact ⟨(ho.2 b h2).1,(ho.2 b h2).2,fun r' hr'=>hw.noLock hm (fun _ h=>h) hr' h2⟩
theorem Sat.famAdd {w0 w:World} (hw:Sat w0 M w) {r:A} (hm:famRow N adr sz L o∈M) (hr:slRow N (adr r) sz (L r)∈M):Sat w0 (famRow N adr sz L (o++[r])::M) w:=by
 have ho:=hw.old _ hm
 have hp:=hw.old _ hr
 refine hw.addFact ho.1 (fun r' hr'=>?_) fun b hb=>?_
 ·rcases List.mem_append.1 hr' with h|h
  ·exact hw.fam hm r' h
  ·rw [List.mem_singleton.1 h];exact hw.sl hr
 ·obtain ⟨r',hr',h1⟩:=hb
  rcases List.mem_append.1 hr' with h|h
  ·have h2:(famRow N adr sz L o).sup b:=⟨r',h,h1⟩
   exact ⟨(ho.2 b h2).1,(ho.2 b h2).2,fun r'' hr''=>hw.noLock hm (fun _ h=>h) hr'' h2⟩
  ·rw [List.mem_singleton.1 h] at h1
   have h2:(slRow N (adr r) sz (L r)).sup b:=h1
   exact ⟨(hp.2 b h2).1,(hp.2 b h2).2,fun r'' hr''=>hw.noLock hr (fun _ h=>h) hr'' h2⟩
theorem J.famSub (hm:famRow N adr sz L o∈M) (hs:∀ r∈o',r∈o) (h:J C st (famRow N adr sz L o'::M) k):J C st M k:=.mk fun a w hf hd hw=>h.go a w hf hd (hw.famSub hm hs)
theorem J.famAdd {r:A} (hm:famRow N adr sz L o∈M) (hr:slRow N (adr r) sz (L r)∈M) (h:J C st (famRow N adr sz L (o++[r])::M) k):J C st M k:=.mk fun a w hf hd hw=>h.go a w hf hd (hw.famAdd hm hr)
end
theorem SrcV.flat {A:Type}{f:A→List Value}{sz b tot:Nat}{e:TypeId}{l:List A} (hf:∀ x,(f x).length=sz) (h1:∀ x,(f x).all (·.oneCell')=true) (hm:Row.blk b e (Sl.flat f l) tot∈M):SrcV C M (some ⟨b,0,none⟩) l.length sz (Sl.flat f l) where
 len:=flat_len hf l
 one:=by
  refine List.all_eq_true.2 fun v hv=>?_
  obtain ⟨cs,hcs,hv⟩:=List.mem_flatten.1 hv
  obtain ⟨x,_,rfl⟩:=List.mem_map.1 hcs
  exact List.all_eq_true.1 (h1 x) v hv
 nil:=fun e=>by cases e
 go:=fun ad ha w hw j u hj=>by
  cases ha
  have:=hw.cellBlk hm hj
  rw [addr_add]
  simpa [addO_eq] using this
theorem LdV.flat {A:Type}{f:A→List Value}{sz b tot i n:Nat}{e T:TypeId}{l:List A}{p:A} [hT:TAgg C.P T n] (hf:∀ x,(f x).length=n) (hm:Row.blk b e (Sl.flat f l) tot∈M) (hp:l[i]?=some p) (hsz:sz=n):LdV C M T ⟨b,0+i*sz,none⟩ (.agg (f p).toArray) :=
 LdV.agg (hf _) (CellsV.of fun j v hv=>by
  subst hsz
  obtain ⟨hi,rfl⟩:=List.getElem?_eq_some_iff.1 hp
  have hj:j < sz:=by rw [← hf l[i]];exact (List.getElem?_eq_some_iff.1 hv).1
  rw [Nat.zero_add]
  exact CellV.blk hm (by rw [flat_at hf hi hj];exact hv))
theorem Sat.ownOpen {w0 w:World} (hw:Sat w0 M w) {base E size n:Nat}{v:Value}{xs:List Value}{F:Row→List Row} (hm:RAt (.own base v E size n xs) M F) (h0:0 < n):∃ g cap,n≤cap∧cap≤maxLen∧v=.slice (some ⟨g,0,none⟩) n cap∧Sat w0 (F (.blk g E xs (cap*size))) w:=by
 obtain ⟨i,h1,h2⟩:=hm.idx
 obtain ⟨hl,hv⟩:=hw.hold _ (List.mem_of_getElem? h1)
 rcases hv with ⟨_,h3⟩|⟨g,cap,cur,rfl,_,h4,h5,h6,h7,h8⟩
 ·omega
 ·refine ⟨g,cap,h5,h6,rfl,h2 _ ▸ hw.swap h1 (r':=.blk g E xs (cap*size)) ⟨cur.toList.drop (n*size),?_,?_⟩ rfl fun b hb=>?_⟩
  ·rw [h4,← h8,List.take_append_drop]
  ·rw [hl,List.length_drop,Array.length_toList,h7]
   have:=Nat.mul_le_mul_right size h5
   omega
  ·cases hb;rfl
theorem G.ownOpen {base E size n:Nat}{v:Value}{xs:List Value}{F:Row→List Row} (hm:RAt (.own base v E size n xs) M F) (h0:0 < n) (h:∀ g cap,n≤cap→cap≤maxLen→v=.slice (some ⟨g,0,none⟩) n cap→G .seq C all st (F (.blk g E xs (cap*size))) rest k):G .seq C all st M rest k :=
 ⟨fun a w hf hd hw=>let ⟨g,cap,h1,h2,h3,h4⟩:=hw.ownOpen hm h0;(h g cap h1 h2 h3).go a w hf hd h4⟩
theorem J.ownOpen {base E size n:Nat}{v:Value}{xs:List Value}{F:Row→List Row} (hm:RAt (.own base v E size n xs) M F) (h0:0 < n) (h:∀ g cap,n≤cap→cap≤maxLen→v=.slice (some ⟨g,0,none⟩) n cap→J C st (F (.blk g E xs (cap*size))) k):J C st M k :=
 .mk fun a w hf hd hw=>let ⟨g,cap,h1,h2,h3,h4⟩:=hw.ownOpen hm h0;(h g cap h1 h2 h3).go a w hf hd h4
theorem J.blkOwn {g cap E size:Nat} (m:Nat) {cs xs:List Value}{F:Row→List Row} (hm:RAt (.blk g E cs (cap*size)) M F) (h1:m≤cap) (h2:cap≤maxLen) (h3:m*size≤cs.length) (h4:cs.take (m*size)=xs) (h:J C st (F (.own 0 (.slice (some ⟨g,0,none⟩) m cap) E size m xs)) k):J C st M k:=.mk fun a w hf hd hw=>by
 obtain ⟨i,h5,h6⟩:=hm.idx
 obtain ⟨rest,h7,h8⟩:=hw.hold _ (List.mem_of_getElem? h5)
 rw [← h6] at h
 refine h.go a w hf hd (hw.swap h5 (r':=.own 0 (.slice (some ⟨g,0,none⟩) m cap) E size m xs) ?_ rfl fun b hb=>?_)
 ·subst h4
  refine ⟨by rw [List.length_take];omega,.inr ⟨g,cap,_,rfl,Nat.zero_le _,h7,h1,h2,by simp [h8],?_⟩⟩
  rw [List.take_append_of_le_length h3]
 ·cases hb;rfl
theorem flat_take {A:Type}{f:A→List Value}{sz:Nat} (hf:∀ x,(f x).length=sz):∀ (l:List A) (m:Nat),(flat f l).take (m*sz)=flat f (l.take m)
 | [],m=>by simp [flat]
 | x::l,0=>by simp [flat]
 | x::l,m+1=>by
  rw [flat_cons,List.take_succ_cons,flat_cons,Nat.succ_mul,Nat.add_comm,← hf x,List.take_length_add_append,hf x,flat_take hf l m]
theorem J.blkCut {A:Type}{f:A→List Value}{g cap E size:Nat}{l l':List A} (m:Nat) {F:Row→List Row} (hf:∀ x,(f x).length=size) (hm:RAt (.blk g E (flat f l) (cap*size)) M F) (h1:m≤cap) (h2:cap≤maxLen) (h3:m≤l.length) (h4:l.take m=l') (h:J C st (F (.own 0 (.slice (some ⟨g,0,none⟩) m cap) E size m (flat f l'))) k):J C st M k:=by
 subst h4
 exact J.blkOwn m hm h1 h2 (by rw [flat_len hf];exact Nat.mul_le_mul_right _ h3) (flat_take hf l m) h
theorem G.slH {T E sz:Nat}{x hi:Operand}{b o n c len:Nat}{k2:IntKind}{e2:Int} (hx:evS st x=some (.slice (some ⟨b,o,none⟩) n c)) (hhi:evS st hi=some (.int k2 e2)) (he2:e2=(len:Int)) (h2:len≤c) (h3:0 < c) [hT:TSlice C.P T E sz] (hs:sideB all st gd d C.N q.calm=some q') (hh:G q' C all ((d,.slice (some ⟨b,o,none⟩) len c)::st) M rest k) :
  G q C all st M ({ dst:=some d,op:=.slice T x none (some hi) none,type:=ty,pos,after,guard:=gd }::rest) k:=by
 obtain ⟨g1,g2,g3⟩:=sideB_ok hs
 refine G.sliceTo hx hhi he2 h2 g1 g2 g3 ?_
 rw [subA,if_neg (by omega),Option.map_some,addr_add,addO_eq,Nat.zero_mul,Nat.add_zero]
 exact hh
end Go.Sl
/-
 Rows that are taken out of a list in another order,the others dropped.
-/
namespace Go.Sl
open Go.RowKit
variable {C:Ctx}{st:List (Nat×Value)}{M:List Row}{k:List Item}
inductive Sel:List Row→List Row→Prop
 | refl {M:List Row}:Sel M M
 | cons {r:Row}{T M M1:List Row} (h:Pick r M M1) (h2:Sel T M1):Sel (r::T) M
 | drop {s:Row}{T M:List Row} (h:Sel T M):Sel T (s::M)
theorem Sel.perm {T M:List Row} (h:Sel T M):∃ E,M.Perm (E++T):=by
 induction h with
 | refl=>exact ⟨[],.refl _⟩
 | cons h _ ih =>
  obtain ⟨E,h3⟩:=ih
  exact ⟨E,h.perm.trans ((List.Perm.cons _ h3).trans List.perm_middle.symm)⟩
 | @drop s T M _ ih =>
  obtain ⟨E,h3⟩:=ih
  exact ⟨s::E,List.Perm.cons _ h3⟩
theorem Sat.sel {w0 w:World}{T:List Row} (hw:Sat w0 M w) (h:Sel T M:=by (repeat' (first|exact Sel.refl|(refine Sel.cons (by (repeat (first|exact Pick.head|apply Pick.tail))) ?_)|apply Sel.drop))):Sat w0 T w:=by
 obtain ⟨E,h3⟩:=h.perm
 exact (hw.perm h3).forget (List.sublist_append_right _ _)
theorem J.sel {T:List Row} (h:J C st T k) (hs:Sel T M:=by (repeat' (first|exact Sel.refl|(refine Sel.cons (by (repeat (first|exact Pick.head|apply Pick.tail))) ?_)|apply Sel.drop))):J C st M k :=
 .mk fun a w hf hd hw=>h.go a w hf hd (hw.sel hs)
theorem J.finS {st':List (Nat×Value)}{T:List Row} (h:J C st' T k) (hs:Sub st st':=by (repeat' (first|exact trivial|refine ⟨rfl,?_⟩))) (hM:Sel T M:=by (repeat' (first|exact Sel.refl|(refine Sel.cons (by (repeat (first|exact Pick.head|apply Pick.tail))) ?_)|apply Sel.drop))):J C st M k:=J.sel (J.sub hs h) hM
theorem pickT {r:Row}{M1 T:List Row} (h:Pick r M M1) (h2:M1.Perm T):M.Perm (r::T):=h.perm.trans (List.Perm.cons _ h2)
end Go.Sl
/-
 Appends in regions that fork,and a stretch of a list.
-/
namespace Go.Sl
open Go.RowKit
variable {C:Ctx}{st:List (Nat×Value)}{M:List Row}{k:List Item}{q q':Md}{all rest:List Oper}{d:Nat}{opn:Op}{ty:TypeId}{pos:String}{after:Array Edge}{gd:Option (Nat×Bool)}
theorem G.oneS {i:Nat}{p:Pt}{o:Option Nat}{M0:List Row} (hg:wnB all st gd=true)
  (h:Eff C st M { dst:=o,op:=opn,type:=ty,pos,after,guard:=gd } fun st' M'=>M0.Sublist M'∧G (.anys M0 p) C all st' M' rest k) :
  G (.ones M0 i p) C all st M ({ dst:=o,op:=opn,type:=ty,pos,after,guard:=gd }::rest) k:=by
 refine ⟨fun _ hl hsel listed hdc hr hp a w hf hdf hw=>?_⟩
 obtain ⟨ho,hl'⟩:=headOf_eq hl
 refine ⟨_,ho,?_⟩
 rw [if_pos ((Wn.ofB (N:=C.N) hg).go a hf _ _ _ _ _)]
 refine h a w hf hw _ fun st' M' a' w' hp2 hf' hd' hw'=>?_
 exact ⟨Sat C.w0 M0,ExtC.sat _ _,hw'.forget hp2.1,.inl fun u hu=>hu,hp2.2.go hp2.1 hl' hsel _ (hdc.set hr) hp a' w' hf' (hd'.trans hdf) hw'⟩
def sdB (all:List Oper) (st:List (Nat×Value)) (gd:Option (Nat×Bool)) (d N:Nat):Bool:=wnB all st gd && Nat.blt d N
theorem G.apS {T ty' E bytes size n m c base:Nat}{z v:Value}{x y:Operand}{a:Option Addr}{xs news cs:List Value}{F:Row→List Row}{M0:List Row} (hs:sdB all st gd d C.N=true) (hq:q.sto=some (M0,q'))
  (hx:evS st x=some v) (hy:evS st y=some (.slice a m c)) (hm:RAt (.own base v E size n xs) M F) [hT:TElem C.P T E z size bytes] (hsrc:SrcV C M a m size news) (hcs:xs++news=cs) (hb:(n+m)*bytes≤140737488355328) (hnm:n+m≤9223372036854775807)
  (h:∀ v',M0.Sublist (F (.own 0 v' E size (n+m) cs))∧G q' C all ((d,v')::st) (F (.own 0 v' E size (n+m) cs)) rest k) :
  G q C all st M ({ dst:=some d,op:=.call { callee:=.builtin .append,args:=#[x,y],argTypes:=#[T,T] },type:=ty',pos,after,guard:=gd }::rest) k:=by
 rw [sdB,Bool.and_eq_true] at hs
 obtain ⟨i,h1,h2⟩:=hm.idx
 exact G.appendS hs.1 hs.2 hq hx h1 hy hsrc hcs hb hnm (fun v'=>by rw [h2];exact (h v').1) fun v'=>by rw [h2];exact (h v').2
theorem G.apSO {i:Nat}{p:Pt}{T ty' E bytes size n m c base:Nat}{z v:Value}{x y:Operand}{a:Option Addr}{xs news cs:List Value}{F:Row→List Row}{M0:List Row} (hs:sdB all st gd d C.N=true)
  (hx:evS st x=some v) (hy:evS st y=some (.slice a m c)) (hm:RAt (.own base v E size n xs) M F) [hT:TElem C.P T E z size bytes] (hsrc:SrcV C M a m size news) (hcs:xs++news=cs) (hb:(n+m)*bytes≤140737488355328) (hnm:n+m≤9223372036854775807)
  (h:∀ v',M0.Sublist (F (.own 0 v' E size (n+m) cs))∧G (.anys M0 p) C all ((d,v')::st) (F (.own 0 v' E size (n+m) cs)) rest k) :
  G (.ones M0 i p) C all st M ({ dst:=some d,op:=.call { callee:=.builtin .append,args:=#[x,y],argTypes:=#[T,T] },type:=ty',pos,after,guard:=gd }::rest) k:=by
 rw [sdB,Bool.and_eq_true] at hs
 obtain ⟨j,h1,h2⟩:=hm.idx
 subst hcs
 refine G.oneS hs.1 (Eff.val hs.2 fun ac w hf hw=>?_)
 obtain ⟨v',w',h3,h4⟩:=append_run (T:=T) (dst:=some d) (ty':=ty') (pos:=pos) (after:=after) (gd:=gd) hf hw hx h1 hy hsrc hb hnm
 exact ⟨v',w',_,h3,h4,by rw [h2];exact (h v').1,by rw [h2];exact (h v').2⟩
theorem SlAt.seg {A:Type}{f:A→List Value}{sz:Nat}{l:List A}{w:World}{b o:Nat} (h:∀ i (hi:i < l.length),RowAt w b (o+i*sz) (f l[i])) (p n:Nat) (hp:p+n≤l.length):SlAt w (some ⟨b,o+p*sz,none⟩) sz (((l.drop p).take n).map f):=fun _ =>
 ⟨b,o+p*sz,rfl,fun i cs hi=>by
  rw [List.getElem?_map,List.getElem?_take] at hi
  split at hi
  ·rename_i hin
   rw [List.getElem?_drop,List.getElem?_eq_getElem (show p+i < l.length by omega)] at hi
   cases hi
   have:=h (p+i) (by omega)
   rw [Nat.add_mul,← Nat.add_assoc] at this
   exact this
  ·cases hi⟩
theorem Row.not_lt {N:Nat}:¬ N < N:=Nat.lt_irrefl N
end Go.Sl
/-
 Copies of which the source may be too long,a part of a block as a source,and masks.
-/
namespace Go.Sl
open Go.RowKit
variable {C:Ctx}{st:List (Nat×Value)}{M:List Row}{k:List Item}{q q':Md}{all rest:List Oper}{d:Nat}{opn:Op}{ty:TypeId}{pos:String}{after:Array Edge}{gd:Option (Nat×Bool)}
theorem G.cpyM {T T2 E n c m c2 bytes b o tot r:Nat}{z:Value}{x y:Operand}{a:Option Addr}{e:TypeId}{cs news out:List Value}{F:Row→List Row} (hs:sideB all st gd d C.N q.res=some q') (hx:evS st x=some (.slice (some ⟨b,o,none⟩) n c)) (hy:evS st y=some (.slice a m c2)) (hm:RAt (.blk b e cs tot) M F) [hT:TElem C.P T E z 1 bytes] (hsrc:SrcV C M a m 1 news) (hmn:min n m=r) (ho:o+r≤cs.length) (hout:setL cs o (news.take r)=out)
  (h:G q' C all ((d,.int .i64 r)::st) (F (.blk b e out tot)) rest k) :
  G q C all st M ({ dst:=some d,op:=.call { callee:=.builtin .copy,args:=#[x,y],argTypes:=#[T,T2] },type:=ty,pos,after,guard:=gd }::rest) k:=by
 obtain ⟨g1,g2,g3⟩:=sideB_ok hs
 obtain ⟨i,h5,h6⟩:=hm.idx
 rw [← h6] at h
 subst hout
 have hlen:news.length=m:=by rw [hsrc.len,Nat.mul_one]
 have hlen2:(news.take r).length=r:=by rw [List.length_take];omega
 refine G.res g1 rfl g3 (Eff.val g2 fun ac w hf hw=>?_)
 obtain ⟨w',h7,h8⟩:=hw.setRow h5 (j:=o) (vs:=news.take r) (by omega) (fun v hv=>List.all_eq_true.1 hsrc.one v (List.mem_of_mem_take hv)) C.P
 refine ⟨_,w',_,?_,h8,h⟩
 have hu:∀ w,(underlying T).run C.P w=.ok (.slice E) w:=fun w=>by simp [underlying,hT.h1]
 obtain ⟨inf,hi,hzz,hsize,hby⟩:=info_parts hT.h2
 have hmin:Nat.min n m=r:=hmn
 have hmin2:Nat.min m n=r:=by rw [← hmn];exact Nat.min_comm m n
 cases a with
 | none =>
  have h0:=hsrc.nil rfl
  subst h0
  have hr0:r=0:=by omega
  subst hr0
  have:w'=w:=by
   rw [List.take_zero] at h7
   simp only [storeCells] at h7
   cases h7;rfl
  subst this
  simp [execOp,resolve,hf.eval hx,hf.eval hy,invoke,builtin,Builtin.copy_,hu,sizeOf,typeInfo,hi,Builtin.lenOf,Builtin.firstCells,hmin,hmin2,storeCells,goInt]
 | some ad =>
  have hl:=run_loadCells_list (P:=C.P) w ad (news.take r) fun j v hv=>hsrc.go ad rfl w hw j v (by rw [List.getElem?_take] at hv;split at hv;exact hv;cases hv)
  rw [hlen2] at hl
  simp [execOp,resolve,hf.eval hx,hf.eval hy,invoke,builtin,Builtin.copy_,hu,sizeOf,typeInfo,hi,hsize,Builtin.lenOf,Builtin.firstCells,hmin,hmin2,hl,h7,goInt]
theorem G.slF {T E sz:Nat}{x lo:Operand}{b o n c l off:Nat}{k1:IntKind}{e1:Int} (hx:evS st x=some (.slice (some ⟨b,o,none⟩) n c)) (hlo:evS st lo=some (.int k1 e1)) (he1:e1=(l:Int)) (h1:l≤n) (h2:l < c) [hT:TSlice C.P T E sz] (hoff:o+l*sz=off) (hs:sideB all st gd d C.N q.calm=some q') (hh:G q' C all ((d,.slice (some ⟨b,off,none⟩) (n-l) (c-l))::st) M rest k) :
  G q C all st M ({ dst:=some d,op:=.slice T x (some lo) none none,type:=ty,pos,after,guard:=gd }::rest) k:=by
 obtain ⟨g1,g2,g3⟩:=sideB_ok hs
 refine G.sliceFrom hx hlo he1 h1 g1 g2 g3 ?_
 rw [subA,if_neg (by omega),Option.map_some,addr_add,addO_eq,hoff]
 exact hh
theorem SrcV.pre {b n:Nat}{e:TypeId}{cs:List Value}{tot:Nat} (hm:Row.blk b e cs tot∈M) (hn:n≤cs.length) (h1:cs.all (·.oneCell')=true):SrcV C M (some ⟨b,0,none⟩) n 1 (cs.take n) where
 len:=by rw [List.length_take];omega
 one:=List.all_eq_true.2 fun v hv=>List.all_eq_true.1 h1 v (List.mem_of_mem_take hv)
 nil:=fun ha=>by cases ha
 go:=fun ad ha w hw j u hj=>by
  cases ha
  rw [addr_add,addO_eq,Nat.zero_add]
  refine hw.cellBlk hm ?_
  rw [List.getElem?_take] at hj
  split at hj
  ·exact hj
  ·cases hj
theorem SrcV.mid {b o n:Nat}{e:TypeId}{cs:List Value}{tot:Nat} (hm:Row.blk b e cs tot∈M) (hn:o+n≤cs.length) (h1:cs.all (·.oneCell')=true):SrcV C M (some ⟨b,o,none⟩) n 1 ((cs.drop o).take n) where
 len:=by rw [List.length_take,List.length_drop];omega
 one:=List.all_eq_true.2 fun v hv=>List.all_eq_true.1 h1 v (List.mem_of_mem_drop (List.mem_of_mem_take hv))
 nil:=fun ha=>by cases ha
 go:=fun ad ha w hw j u hj=>by
  cases ha
  rw [addr_add,addO_eq]
  refine hw.cellBlk hm ?_
  rw [List.getElem?_take] at hj
  split at hj
  ·rw [List.getElem?_drop] at hj;exact hj
  ·cases hj
theorem G.s1n {T:TypeId}{x y:Operand}{v:Value}{n b j tot:Nat}{e:TypeId}{cs out:List Value} (hs:wqB all st gd (q.st n)=some q')
  (hx:evS st x=some (.pointer (some ⟨b,j,none⟩))) (hy:evS st y=some v) (hm:M[n]?=some (.blk b e cs tot)) [hT:TSize C.P T 1] (h1:v.cells=#[v]∧v.oneCell'=true) (hj:j < cs.length) (ho:setL cs j [v]=out)
  (h:G q' C all st (M.set n (.blk b e out tot)) rest k) :
  G q C all st M ({ dst:=none,op:=.store T x y,type:=ty,pos,after,guard:=gd }::rest) k:=by
 obtain ⟨g1,g2⟩:=wqB_ok hs
 subst ho
 exact G.storeW (i:=n) (vs:=[v]) g1 g2 hx hm hy h1.1 (by simp [h1.2]) (by simp;omega) rfl h
theorem G.ownForm' {base E size n:Nat}{v:Value}{xs:List Value}{F:Row→List Row} (hm:RAt (.own base v E size n xs) M F) (h:∀ a c,v=.slice a n c→G .seq C all st M rest k):G .seq C all st M rest k :=
 ⟨fun a w hf hd hw=>by
  obtain ⟨i,h1,_⟩:=hm.idx
  obtain ⟨_,hv⟩:=hw.hold _ (List.mem_of_getElem? h1)
  rcases hv with ⟨rfl,hn⟩|⟨g,cap,cur,rfl,_⟩
  ·subst hn;exact (h none 0 rfl).go a w hf hd hw
  ·exact (h _ _ rfl).go a w hf hd hw⟩
theorem G.andK {t:TypeId}{x y:Operand}{yt:TypeId}{ki:IntKind}{a b m:Int} (hx:evS st x=some (.int ki a)) (hy:evS st y=some (.int ki b)) (hm:ki.wrap ((BitVec.ofInt ki.bits a &&& BitVec.ofInt ki.bits b).toNat:Int)=m) (hg:wnB all st gd=true) (hd:Nat.blt d C.N=true) (hq:q.calm=some q') (h:G q' C all ((d,.int ki m)::st) M rest k) :
  G q C all st M ({ dst:=some d,op:=.binOp .and t x y yt,type:=ty,pos,after,guard:=gd }::rest) k :=
 G.op (OpV.bin hx hy fun w=>by subst hm;cases ki<;>rfl) hg rfl hd hq h
theorem mask32 (a:Int) (h0:0≤a) (h1:a < 4294967296):IntKind.u64.wrap ((BitVec.ofInt IntKind.u64.bits a &&& BitVec.ofInt IntKind.u64.bits 4294967295).toNat:Int)=a:=by
 obtain ⟨n,rfl⟩:∃ n:Nat,a=n:=⟨a.toNat,by omega⟩
 have e1:(BitVec.ofInt 64 (n:Int)).toNat=n:=by rw [BitVec.ofInt_natCast,BitVec.toNat_ofNat];omega
 have e2:(BitVec.ofInt 64 (4294967295:Int)).toNat=2 ^ 32-1:=by decide
 show IntKind.u64.wrap ((BitVec.ofInt 64 (n:Int) &&& BitVec.ofInt 64 4294967295).toNat:Int)=n
 rw [BitVec.toNat_and,e1,e2,Nat.and_two_pow_sub_one_eq_mod,Nat.mod_eq_of_lt (by omega)]
 simp [IntKind.wrap,IntKind.bits,IntKind.signed];omega
theorem shift32 (a:Int) (h0:0≤a) (h1:a < 4294967296):a.fdiv (2 ^ (min 32 IntKind.u64.bits))=0:=by
 show a.fdiv 4294967296=0
 rw [Int.fdiv_eq_ediv_of_nonneg _ (by decide)];omega
end Go.Sl
/-
 A slice with all three bounds;an append that keeps the slice's form.
-/
namespace Go.Sl
open Go.RowKit Go.Proofs
variable {C:Ctx}{st:List (Nat×Value)}{M:List Row}{k:List Item}{q q':Md}{all rest:List Oper}{d:Nat}{ty:TypeId}{pos:String}{after:Array Edge}{gd:Option (Nat×Bool)}
theorem G.apV {C:Ctx}{st:List (Nat×Value)}{M:List Row}{k:List Item}{q q':Md}{all rest:List Oper}{d:Nat}{pos:String}{after:Array Edge}{gd:Option (Nat×Bool)}{T ty' E bytes size n m c base:Nat}{z v:Value}{x y:Operand}{a:Option Addr}{xs news cs:List Value}{F:Row→List Row}
  (hs:sideB all st gd d C.N q.res=some q') (hx:evS st x=some v) (hy:evS st y=some (.slice a m c)) (hm:RAt (.own base v E size n xs) M F) [hT:TElem C.P T E z size bytes] (hsrc:SrcV C M a m size news) (hcs:xs++news=cs) (hb:(n+m)*bytes≤140737488355328) (hnm:n+m≤9223372036854775807)
  (h:∀ a' c',G q' C all ((d,.slice a' (n+m) c')::st) (F (.own 0 (.slice a' (n+m) c') E size (n+m) cs)) rest k) :
  G q C all st M ({ dst:=some d,op:=.call { callee:=.builtin .append,args:=#[x,y],argTypes:=#[T,T] },type:=ty',pos,after,guard:=gd }::rest) k:=by
 obtain ⟨g1,g2,g3⟩:=sideB_ok hs
 obtain ⟨i,hi,h6⟩:=hm.idx
 subst hcs
 refine G.res g1 rfl g3 (Eff.val g2 fun ac w hf hw=>?_)
 obtain ⟨v',w',h1,h2⟩:=append_run (T:=T) (dst:=some d) (ty':=ty') (pos:=pos) (after:=after) (gd:=gd) hf hw hx hi hy hsrc hb hnm
 have hlt:i < M.length:=(List.getElem?_eq_some_iff.1 hi).1
 have hown:w'.ownsRow 0 E size v' (n+m) (xs++news):=h2.hold _ (List.mem_of_getElem? (List.getElem?_set_self hlt))
 have:∃ a' c',v'=.slice a' (n+m) c':=by
  generalize n+m=u at hown ⊢
  obtain ⟨-,hv⟩:=hown
  rcases hv with ⟨h0,rfl⟩|⟨g,cap,cur,h0,-⟩
  ·exact ⟨none,0,h0⟩
  ·exact ⟨_,_,h0⟩
 obtain ⟨a',c',rfl⟩:=this
 exact ⟨_,w',_,h1,h2,h6 _ ▸ h a' c'⟩
end Go.Sl
/-
 Digits to the base 2^32 and bytes: how a number is read from its bytes and written as bytes.
-/
namespace Go.Num
abbrev B32:Nat:=4294967296
theorem b32_eq:(256:Nat) ^ 4=B32:=by decide
def by4 (d:Nat):List Nat:=[d % 256,d / 256 % 256,d / 65536 % 256,d / 16777216 % 256]
theorem vL_by4 {d:Nat} (h:d < B32):vL 256 (by4 d)=d:=by
 simp only [by4,vL,B32] at *
 omega
theorem vL_flat {B:Nat} (hB:256 ^ 4=B) (h4:∀ d,d < B→vL 256 (by4 d)=d):∀ x:List Nat,(∀ d∈x,d < B)→vL 256 (x.flatMap by4)=vL B x
 | [],_=>rfl
 | d::r,h=>by
  have e:(by4 d).length=4:=rfl
  rw [List.flatMap_cons,vL_append,h4 d (h d (.head _)),vL_flat hB h4 r fun y hy=>h y (.tail _ hy),e,hB,vL]
theorem by4_lt {d x:Nat} (h:x∈by4 d):x < 256:=by
 simp only [by4,List.mem_cons,List.not_mem_nil,or_false] at h
 omega
theorem text_eq {x:List Nat} (h:∀ d∈x,d < B32) {l:List UInt8} (hl:l.map UInt8.toNat=(x.flatMap by4).reverse):l.dropWhile (· == 0)=nB (vL B32 x):=by
 rw [clean_eq,vB_rev,List.map_reverse,hl,List.reverse_reverse,vL_flat b32_eq (fun d h=>vL_by4 h) x h]
theorem take_step (l:List UInt8) {e:Nat} (he:e≤l.length):vB (l.take e)=vB (l.take (e-4))*256 ^ (e-(e-4))+vB ((l.drop (e-4)).take (e-(e-4))):=by
 have h:l.take e=l.take (e-4)++(l.drop (e-4)).take (e-(e-4)):=by
  rw [← List.take_add];congr 1;omega
 rw [h,vB_append]
 congr 2
 rw [List.length_take,List.length_drop];congr 1;omega
theorem load_step {B:Nat} (hB:256 ^ 4=B) (l:List UInt8) {x:List Nat}{k:Nat} (hk:x.length=k) (h4:4*k < l.length) (h:vL B x+B ^ k*vB (l.take (l.length-4*k))=vB l) :
  vL B (x++[vB ((l.drop (l.length-4*k-4)).take (l.length-4*k-(l.length-4*k-4)))])+B ^ (k+1)*vB (l.take (l.length-4*(k+1)))=vB l ∧
  vB ((l.drop (l.length-4*k-4)).take (l.length-4*k-(l.length-4*k-4))) < B:=by
 have hs:=take_step l (e:=l.length-4*k) (by omega)
 refine ⟨?_,?_⟩
 ·rw [vL_snoc,hk,← h,hs]
  have e1:l.length-4*(k+1)=l.length-4*k-4:=by omega
  rw [e1]
  generalize hv:vB ((l.drop (l.length-4*k-4)).take (l.length-4*k-(l.length-4*k-4)))=v
  by_cases h5:4≤l.length-4*k
  ·have e2:l.length-4*k-(l.length-4*k-4)=4:=by omega
   rw [e2,Nat.pow_succ,Nat.mul_add,Nat.mul_assoc,Nat.mul_comm B,hB]
   omega
  ·have e3:l.length-4*k-4=0:=by omega
   rw [e3]
   simp [vB]
 ·have:=vB_lt ((l.drop (l.length-4*k-4)).take (l.length-4*k-(l.length-4*k-4)))
  have h6:((l.drop (l.length-4*k-4)).take (l.length-4*k-(l.length-4*k-4))).length≤4:=by
   rw [List.length_take];omega
  have h7:256 ^ ((l.drop (l.length-4*k-4)).take (l.length-4*k-(l.length-4*k-4))).length≤256 ^ 4:=Nat.pow_le_pow_right (by omega) h6
  omega
theorem load_end {B:Nat} (l:List UInt8) {x:List Nat}{k:Nat} (h4:l.length≤4*k) (h:vL B x+B ^ k*vB (l.take (l.length-4*k))=vB l):vL B x=vB l:=by
 rw [show l.length-4*k=0 by omega] at h
 simpa [vB] using h
end Go.Num
/-
 The division of numbers by digits: what is known when one digit of the quotient is taken.
-/
namespace Go.Num
theorem vL_drop2 (b:Nat) {x:List Nat}{i n:Nat} (h:i+n≤x.length):vL b (x.drop i)=vL b ((x.drop i).take n)+b ^ n*vL b (x.drop (i+n)):=by
 have h1:=vL_split b (x.drop i) n
 rw [List.drop_drop,List.length_drop,Nat.min_eq_left (by omega)] at h1
 exact h1
theorem vL_top2 (b:Nat) {x:List Nat}{i n:Nat} (hn:1≤n) (h:i+n+1≤x.length):vL b ((x.drop i).take (n+1))=vL b ((x.drop i).take (n-1))+b ^ (n-1)*(x.getD (i+n) 0*b+x.getD (i+n-1) 0):=by
 obtain ⟨m,rfl⟩:∃ m,n=m+1:=⟨n-1,by omega⟩
 have e:∀ k,(x.drop i).getD k 0=x.getD (i+k) 0:=fun k=>by simp [List.getD_eq_getElem?_getD]
 rw [vL_take_succ,vL_take_succ,e,e,Nat.add_sub_cancel,Nat.pow_succ,Nat.mul_add,show i+(m+1)-1=i+m by omega,Nat.mul_assoc,Nat.mul_comm b (x.getD _ _)]
 omega
structure Kn (B V:Nat) (v rho:List Nat) (i n:Nat) where
 hB:2≤B
 hv:vL B v=V
 hvl:v.length=n
 hvd:∀ d∈v,d < B
 hn:2≤n
 hrd:∀ d∈rho,d < B
 hlen:i+n+1≤rho.length
 hlt:vL B (rho.drop (i+1)) < V
variable {B V:Nat}{v rho:List Nat}{i n:Nat}
theorem Kn.vlt (h:Kn B V v rho i n):V < B ^ n:=by
 rw [← h.hv,← h.hvl];exact vL_lt (by have:=h.hB;omega) v h.hvd
theorem Kn.above (h:Kn B V v rho i n):vL B (rho.drop (i+n+1))=0:=by
 have h1:=vL_drop2 B (x:=rho) (i:=i+1) (n:=n) (by have:=h.hlen;omega)
 have h2:=h.hlt
 have h3:=h.vlt
 rw [show i+1+n=i+n+1 by omega] at h1
 rcases Nat.eq_zero_or_pos (vL B (rho.drop (i+n+1))) with h4|h4
 ·exact h4
 ·have:B ^ n*1≤B ^ n*vL B (rho.drop (i+n+1)):=Nat.mul_le_mul_left _ h4
  omega
theorem Kn.part (h:Kn B V v rho i n):vL B ((rho.drop i).take (n+1))=vL B (rho.drop i):=by
 have h1:=vL_drop2 B (x:=rho) (i:=i) (n:=n+1) (by have:=h.hlen;omega)
 rw [show i+(n+1)=i+n+1 by omega,h.above,Nat.mul_zero,Nat.add_zero] at h1
 exact h1.symm
theorem Kn.lt (h:Kn B V v rho i n):vL B (rho.drop i) < B*V:=by
 have h1:=vL_drop_succ (b:=B) (x:=rho) (k:=i) (by have:=h.hlen;omega)
 have h2:=getD_lt (by have:=h.hB;omega) h.hrd i
 have h3:B*(vL B (rho.drop (i+1))+1)≤B*V:=Nat.mul_le_mul_left _ h.hlt
 rw [Nat.mul_add] at h3
 omega
theorem Kn.vpos (h:Kn B V v rho i n):0 < V:=Nat.lt_of_le_of_lt (Nat.zero_le _) h.hlt
theorem Kn.qlt (h:Kn B V v rho i n):vL B (rho.drop i) / V < B:=Nat.div_lt_of_lt_mul (by rw [Nat.mul_comm];exact h.lt)
theorem vL_tops (b:Nat) {v:List Nat}{n:Nat} (hn:2≤n) (hl:v.length=n):vL b v=vL b (v.take (n-2))+b ^ (n-2)*(v.getD (n-1) 0*b+v.getD (n-2) 0):=by
 have h1:=vL_top2 b (x:=v) (i:=0) (n:=n-1) (by omega) (by omega)
 rw [List.drop_zero,Nat.zero_add,List.take_of_length_le (by omega)] at h1
 rw [h1,show n-1-1=n-2 by omega]
theorem Kn.guess (h:Kn B V v rho i n):vL B (rho.drop i) / V*v.getD (n-1) 0≤rho.getD (i+n) 0*B+rho.getD (i+n-1) 0:=by
 have hn:=h.hn
 have hB:=h.hB
 refine kn_top (V:=V) (p:=B ^ (n-1)) (R:=vL B (rho.drop i)) ?_ ?_ (Nat.div_mul_le_self _ _)
 ·rw [← h.hv,vL_tops B hn h.hvl,show n-1=(n-2)+1 by omega,Nat.pow_succ,show n-2+1=n-1 by omega,Nat.mul_add,Nat.mul_comm (v.getD _ _),Nat.mul_assoc,Nat.mul_comm B]
  omega
 ·rw [← h.part,vL_top2 B (by omega) (by have:=h.hlen;omega)]
  have h1:=vL_lt (b:=B) (by omega) ((rho.drop i).take (n-1)) fun d hd=>h.hrd d (List.mem_of_mem_drop (List.mem_of_mem_take hd))
  rw [List.length_take,List.length_drop,Nat.min_eq_left (by have:=h.hlen;omega)] at h1
  rw [Nat.add_mul,Nat.one_mul,Nat.mul_comm (B ^ (n-1))]
  omega
theorem Kn.second (h:Kn B V v rho i n) {l g:Nat} (hl:l+g*v.getD (n-1) 0=rho.getD (i+n) 0*B+rho.getD (i+n-1) 0) (hg:l*B+rho.getD (i+n-2) 0 < g*v.getD (n-2) 0):vL B (rho.drop i) / V < g:=by
 have hn:=h.hn
 have hB:=h.hB
 refine kn_next rfl h.vpos (kn_second (b:=B) (p:=B ^ (n-2)) ?_ ?_ hl hg)
 ·rw [← h.hv,vL_tops B hn h.hvl,Nat.mul_comm (B ^ (n-2))]
  omega
 ·rw [← h.part,vL_top2 B (by omega) (by have:=h.hlen;omega)]
  obtain ⟨m,rfl⟩:∃ m,n=m+2:=⟨n-2,by omega⟩
  have e:(rho.drop i).getD m 0=rho.getD (i+m) 0:=by simp [List.getD_eq_getElem?_getD]
  rw [show m+2-1=m+1 by omega,vL_take_succ,e,show m+2-2=m by omega,show i+(m+2)-2=i+m by omega]
  have h1:=vL_lt (b:=B) (by omega) ((rho.drop i).take m) fun d hd=>h.hrd d (List.mem_of_mem_drop (List.mem_of_mem_take hd))
  rw [List.length_take,List.length_drop,Nat.min_eq_left (by have:=h.hlen;omega)] at h1
  generalize rho.getD (i+(m+2)) 0*B+rho.getD (i+(m+2)-1) 0=t
  rw [Nat.add_mul,Nat.add_mul,Nat.one_mul,Nat.pow_succ,Nat.mul_comm (rho.getD _ _),Nat.mul_assoc,Nat.mul_comm B t,Nat.mul_comm (B ^ m) (t*B)]
  omega
def putL (rho:List Nat) (i n:Nat) (d:List Nat):List Nat:=rho.take i++(d++List.replicate (n+1-d.length) 0)++rho.drop (i+n+1)
theorem vL_zeros (b:Nat):∀ k,vL b (List.replicate k 0)=0
 | 0=>rfl
 | k+1=>by rw [List.replicate_succ,vL,vL_zeros b k];simp
theorem Kn.put (h:Kn B V v rho i n) {q:Nat} (hq:q=vL B (rho.drop i) / V) {d:List Nat} (hd:∀ x∈d,x < B) (hdl:d.length≤n+1) (hdv:vL B d=vL B (rho.drop i)-q*V) :
  (putL rho i n d).length=rho.length∧(∀ x∈putL rho i n d,x < B)∧vL B ((putL rho i n d).drop i) < V∧vL B (putL rho i n d)+B ^ i*(q*V)=vL B rho:=by
 have hlen:=h.hlen
 have hp:=h.vpos
 have hmod:vL B d < V:=by
  rw [hdv,hq]
  have h1:=Nat.div_add_mod (vL B (rho.drop i)) V
  have h2:=Nat.mod_lt (vL B (rho.drop i)) hp
  rw [Nat.mul_comm] at h1
  omega
 have hqle:q*V≤vL B (rho.drop i):=by rw [hq];exact Nat.div_mul_le_self _ _
 have hdr:(putL rho i n d).drop i=(d++List.replicate (n+1-d.length) 0)++rho.drop (i+n+1):=by
  rw [putL,List.append_assoc,List.drop_append,List.length_take,Nat.min_eq_left (by omega),List.drop_of_length_le (by rw [List.length_take];omega)]
  simp
 have hvd:vL B ((putL rho i n d).drop i)=vL B d:=by
  rw [hdr,vL_append,vL_append,vL_zeros,h.above];simp
 refine ⟨?_,?_,by rw [hvd];exact hmod,?_⟩
 ·simp only [putL,List.length_append,List.length_take,List.length_replicate,List.length_drop];omega
 ·intro x hx
  simp only [putL,List.mem_append] at hx
  rcases hx with (hx|hx|hx)|hx
  ·exact h.hrd x (List.mem_of_mem_take hx)
  ·exact hd x hx
  ·have:=List.eq_of_mem_replicate hx;have:=h.hB;omega
  ·exact h.hrd x (List.mem_of_mem_drop hx)
 ·have h1:=vL_split B (putL rho i n d) i
  have h2:=vL_split B rho i
  have h3:(putL rho i n d).take i=rho.take i:=by
   rw [putL,List.append_assoc,List.take_append,List.length_take,Nat.min_eq_left (by omega),Nat.sub_self,List.take_zero,List.append_nil,List.take_take]
   simp
  have h4:(putL rho i n d).length=rho.length:=by
   simp only [putL,List.length_append,List.length_take,List.length_replicate,List.length_drop];omega
  rw [h4,Nat.min_eq_left (by omega),h3,hvd,hdv] at h1
  rw [Nat.min_eq_left (by omega)] at h2
  rw [h1,h2,Nat.add_assoc,← Nat.mul_add]
  congr 2
  omega
end Go.Num
/-
 Contracts of the natural numbers' digits: at.
-/
namespace Go.Proofs.YtcdgibkbbcekhaaDoor
open Go.RowKit Go.Sl Go.Num
theorem ret_int {k:IntKind}{a b:Int} (h:a=b):Ending.returned (.int k a)=.returned (.int k b):=by rw [h]
theorem ret_bool {a b:Bool} (h:a=b):Ending.returned (.bool a)=.returned (.bool b):=by rw [h]
def lmV (d:Nat):List Value:=[.int .u32 (d:Int)]
theorem lmV_len (d:Nat):(lmV d).length=1:=rfl
theorem lmV_one (d:Nat):(lmV d).all (·.oneCell')=true:=rfl
theorem at_holds (a:Option Addr) (x:List Nat) (c k:Nat) (w:World) (hl:x.length≤9223372036854775807) (hx:∀ d∈x,d < B32) (hA:SlAt w a 1 (x.map lmV)) :
  Calls Tryd.prog 56 #[.slice a x.length c,.int .i64 k] w fun e w'=>e=.returned (.int .u64 ((x.getD k 0:Nat):Int))∧Below w.heap.size w w':=by
 refine enter [(0,.slice a x.length c),(1,.int .i64 k)] Tryd.func56 rfl Tryd.ntmps56 (by simp) ⟨rfl,rfl,trivial⟩ ?_
 by_cases hk:k < x.length
 ·obtain ⟨b,o,rfl,hrow⟩:=hA.at k hk
  have hd:x.getD k 0=x[k]:=by rw [List.getD_eq_getElem?_getD,List.getElem?_eq_getElem hk];rfl
  have hb:=hx _ (List.getElem_mem hk)
  rw [hd]
  generalize x[k]=v at *
  have hw:IntKind.u64.wrap (v:Int)=v:=by rw [wrap_u64];simp only [B32] at hb;omega
  repeat' (first|(apply G.convK;rfl;exact hw;rfl;rfl;rfl)|(apply G.pu;rfl;rfl;first|exact trivial|omega)|(apply J.ct;rfl)|(apply G.nil;rfl)|(apply G.cm;rfl;rfl;all_goals intro h;all_goals try (exfalso;omega))|(apply G.fa;rfl;rfl)|(apply G.ld;rfl;(first|(apply LdV.one;(first|exact CellV.row0 (by assumption) rfl|exact CellV.rowS (by assumption) rfl|exact CellV.rowSS (by assumption) rfl|(apply CellV.blk;exact mm;rfl)))|(apply LdV.aggBlk;exact mm;rfl)|(apply LdV.part;exact mm;rfl;rfl)|(apply LdV.aggRow;assumption;rfl)|(apply LdV.partRow;assumption;rfl;rfl));rfl)|(apply G.sk;rfl)|(apply G.ls;rfl;rfl)|(apply G.ix;rfl;rfl;rfl;omega;rfl)|(apply G.ix;rfl;rfl;(first|exact sub_one _|exact add_one' _);omega;rfl)|(apply G.lt;rfl;rfl)|(apply G.bu;rfl;rfl;rfl)|(apply G.fd;rfl;rfl;rfl)|(apply G.cv;rfl;rfl;rfl;omega)|(apply G.beq;rfl;rfl;rfl)|(apply G.bne;rfl;rfl;rfl)|(apply G.mm;rfl;rfl)|(apply G.mf;rfl;rfl)|(apply G.mx;rfl;rfl;rfl)|(apply G.mn;rfl;rfl;rfl)|(apply G.bx;rfl;rfl;rfl;intro Bk)|(apply G.al;rfl;intro Bk)|(apply G.so;rfl;rfl;(repeat (first|exact RAt.head|apply RAt.tail));rfl;rfl)|(apply G.ss;rfl;rfl;(repeat (first|exact RAt.head|apply RAt.tail));rfl;rfl)|(apply J.regQ;exact Tryd.mixed;decide +kernel)|(apply J.regL;exact Tryd.mixed;decide +kernel)|apply J.reg)
  all_goals refine ret1b Tryd.func56 Tryd.results56 ?_
  all_goals rfl
 ·have hd:x.getD k 0=0:=by rw [List.getD_eq_getElem?_getD,List.getElem?_eq_none (by omega)];rfl
  rw [hd]
  all_goals (refine go ?_;and_intros<;>(try exact trivial)<;>repeat (first|refine fun (Bk:Nat)=>?_|intro h))
  all_goals refine ret1b Tryd.func56 Tryd.results56 ?_
  all_goals rfl
theorem subA_zero (a:Option Addr) (c sz:Nat):subA a c 0 sz=a:=by
 rw [subA]
 split
 ·rfl
 ·cases a with
  | none=>rfl
  | some p=>rw [Nat.zero_mul];rfl
theorem trimL_snoc:∀ l:List Nat,trimL (l++[0])=trimL l
 | []=>by simp [trimL]
 | x::r=>by rw [List.cons_append,trimL,trimL,trimL_snoc r]
theorem trimL_le:∀ l:List Nat,(trimL l).length≤l.length
 | []=>Nat.le_refl _
 | x::r=>by
  have:=trimL_le r
  rw [trimL]
  split
  ·simp
  ·simp;omega
theorem trimL_pre:∀ l:List Nat,trimL l <+: l
 | []=>List.prefix_refl _
 | x::r=>by
  rw [trimL]
  split
  ·exact List.nil_prefix
  ·exact List.cons_prefix_cons.2 ⟨rfl,trimL_pre r⟩
theorem trim_holds (a:Option Addr) (Y:List Nat) (c:Nat) (w:World) (hc:Y.length≤c) (hl:Y.length≤9223372036854775807) (hA:SlAt w a 1 (Y.map lmV)) :
  Calls Tryd.prog 43 #[.slice a Y.length c] w fun e w'=>e=.returned (.slice a (trimL Y).length c)∧Below w.heap.size w w':=by
 refine enter [(0,.slice a Y.length c)] Tryd.func43 rfl Tryd.ntmps43 (by simp) ⟨rfl,trivial⟩ ?_
 all_goals (refine go ?_;and_intros<;>(try exact trivial)<;>repeat (first|refine fun (Bk:Nat)=>?_|intro h))
 refine J.loop (c:=_) Y.length (fun x=>x) (fun x=>[(0,.slice a x c)]) (fun x=>[]) (fun x=>x≤Y.length∧trimL (Y.take x)=trimL Y) ?_ sbT sbL ?_
 ·exact ⟨Nat.le_refl _,by rw [List.take_length]⟩
 intro n ⟨hn,ht⟩ ih
 rcases Nat.eq_zero_or_pos n with rfl|h0
 ·have ht':trimL Y=[]:=by rw [← ht];rfl
  rw [ht']
  all_goals (refine go ?_;and_intros<;>(try exact trivial)<;>repeat (first|refine fun (Bk:Nat)=>?_|intro h))
  all_goals refine ret1b Tryd.func43 Tryd.results43 ?_
  all_goals rfl
 ·obtain ⟨i,rfl⟩:∃ i,n=i+1:=⟨n-1,by omega⟩
  obtain ⟨b,o,rfl,hrow⟩:=hA.at i (by omega)
  have hsp:Y.take (i+1)=Y.take i++[Y[i]]:=by rw [List.take_add_one,List.getElem?_eq_getElem (by omega)];rfl
  rw [hsp] at ht
  have e1:((i+1:Nat):Int)-1=(i:Int):=by omega
  generalize hv:Y[i]=v at *
  by_cases hz:v=0
  ·subst hz
   rw [trimL_snoc] at ht
   all_goals (refine go ?_;and_intros<;>(try exact trivial)<;>repeat (first|refine fun (Bk:Nat)=>?_|intro h))
   repeat' ((first|(apply G.indexAddr (i:=i);rfl;rfl;exact e1;omega;rfl;rfl;rfl)|(apply G.sliceTo (h:=i);rfl;rfl;exact e1;omega;rfl;rfl;rfl;rw [subA_zero]))<;>(refine go ?_;and_intros<;>(try exact trivial)<;>repeat (first|refine fun (Bk:Nat)=>?_|intro h)))
   exact J.fin (ih i ⟨by omega,ht⟩ (by omega))
  ·have hl2:trimL Y=Y.take (i+1):=by
    rw [← ht,hsp,trimL_last _ (by simp) (by simp [hz])]
   have hlen:(trimL Y).length=i+1:=by rw [hl2,List.length_take];omega
   rw [hlen]
   all_goals (refine go ?_;and_intros<;>(try exact trivial)<;>repeat (first|refine fun (Bk:Nat)=>?_|intro h))
   repeat' ((first|(apply G.indexAddr (i:=i);rfl;rfl;exact e1;omega;rfl;rfl;rfl))<;>(refine go ?_;and_intros<;>(try exact trivial)<;>repeat (first|refine fun (Bk:Nat)=>?_|intro h)))
   all_goals refine ret1b Tryd.func43 Tryd.results43 ?_
   all_goals rfl
end Go.Proofs.YtcdgibkbbcekhaaDoor
/-
 Contracts of the comparisons of numbers.
-/
namespace Go.Proofs.YtcdgibkbbcekhaaDoor
open Go.RowKit Go.Sl Go.Num
def cmpI (x y:Int):Int:=if x < y then -1 else if y < x then 1 else 0
theorem isNaNi_holds (x:Int) (w:World):Calls Tryd.prog 84 #[.int .i64 x] w fun e w'=>e=.returned (.bool false)∧Below w.heap.size w w':=by
 refine enter [(0,.int .i64 x)] Tryd.func84 rfl Tryd.ntmps84 (by simp) ⟨rfl,trivial⟩ ?_
 all_goals (refine go ?_;and_intros<;>(try exact trivial)<;>repeat (first|refine fun (Bk:Nat)=>?_|intro h))
 all_goals refine ret1b Tryd.func84 Tryd.results84 ?_
 all_goals rfl
theorem isNaNu_holds (x:Int) (w:World):Calls Tryd.prog 85 #[.int .u32 x] w fun e w'=>e=.returned (.bool false)∧Below w.heap.size w w':=by
 refine enter [(0,.int .u32 x)] Tryd.func85 rfl Tryd.ntmps85 (by simp) ⟨rfl,trivial⟩ ?_
 all_goals (refine go ?_;and_intros<;>(try exact trivial)<;>repeat (first|refine fun (Bk:Nat)=>?_|intro h))
 all_goals refine ret1b Tryd.func85 Tryd.results85 ?_
 all_goals rfl
theorem cmpi_holds (x y:Int) (w:World):Calls Tryd.prog 67 #[.int .i64 x,.int .i64 y] w fun e w'=>e=.returned (.int .i64 (cmpI x y))∧Below w.heap.size w w':=by
 refine enter [(0,.int .i64 x),(1,.int .i64 y)] Tryd.func67 rfl Tryd.ntmps67 (by simp) ⟨rfl,rfl,trivial⟩ ?_
 all_goals (refine go ?_;and_intros<;>(try exact trivial)<;>repeat (first|refine fun (Bk:Nat)=>?_|intro h))
 repeat' ((first|(apply G.callV (g:=84);rfl;rfl;rfl;rfl;exact fun w _=>isNaNi_holds _ w))<;>(refine go ?_;and_intros<;>(try exact trivial)<;>repeat (first|refine fun (Bk:Nat)=>?_|intro h)))
 all_goals refine ret1b Tryd.func67 Tryd.results67 ?_
 all_goals exact ret_int (by rw [cmpI];first|(rw [if_pos (by omega)])|(rw [if_neg (by omega),if_pos (by omega)])|(rw [if_neg (by omega),if_neg (by omega)]))
theorem cmpu_holds (x y:Int) (w:World):Calls Tryd.prog 68 #[.int .u32 x,.int .u32 y] w fun e w'=>e=.returned (.int .i64 (cmpI x y))∧Below w.heap.size w w':=by
 refine enter [(0,.int .u32 x),(1,.int .u32 y)] Tryd.func68 rfl Tryd.ntmps68 (by simp) ⟨rfl,rfl,trivial⟩ ?_
 all_goals (refine go ?_;and_intros<;>(try exact trivial)<;>repeat (first|refine fun (Bk:Nat)=>?_|intro h))
 repeat' ((first|(apply G.callV (g:=85);rfl;rfl;rfl;rfl;exact fun w _=>isNaNu_holds _ w))<;>(refine go ?_;and_intros<;>(try exact trivial)<;>repeat (first|refine fun (Bk:Nat)=>?_|intro h)))
 all_goals refine ret1b Tryd.func68 Tryd.results68 ?_
 all_goals exact ret_int (by rw [cmpI];first|(rw [if_pos (by omega)])|(rw [if_neg (by omega),if_pos (by omega)])|(rw [if_neg (by omega),if_neg (by omega)]))
theorem cmpI_lt {x y:Int} (h:x < y):cmpI x y=-1:=by rw [cmpI,if_pos h]
theorem cmpI_gt {x y:Int} (h:y < x):cmpI x y=1:=by rw [cmpI,if_neg (by omega),if_pos h]
theorem cmpI_eq (x:Int):cmpI x x=0:=by rw [cmpI,if_neg (by omega),if_neg (by omega)]
theorem compare_holds (a:Option Addr) (m c:Nat) (b:Option Addr) (n d:Nat) (w:World) (hl:(dgs B32 m).length≤9223372036854775807) (hm:(dgs B32 n).length≤9223372036854775807) (hA:SlAt w a 1 ((dgs B32 m).map lmV)) (hB:SlAt w b 1 ((dgs B32 n).map lmV)) :
  Calls Tryd.prog 57 #[.slice a (dgs B32 m).length c,.slice b (dgs B32 n).length d] w fun e w'=>e=.returned (.int .i64 (cmpI m n))∧Below w.heap.size w w':=by
 obtain ⟨B,hBB,h2⟩:∃ B,B32=B∧2≤B:=⟨_,rfl,by decide⟩
 rw [hBB] at hl hm hA hB ⊢
 clear hBB
 have hx:=dgs_lt h2 m
 have hy:=dgs_lt h2 n
 have vx:=vL_dgs h2 m
 have vy:=vL_dgs h2 n
 have l1:(dgs B m).length < (dgs B n).length→m < n:=dgs_len_lt h2
 have l2:(dgs B n).length < (dgs B m).length→n < m:=dgs_len_lt h2
 generalize dgs B m=X at *
 generalize dgs B n=Z at *
 refine enter [(0,.slice a X.length c),(1,.slice b Z.length d)] Tryd.func57 rfl Tryd.ntmps57 (by simp) ⟨rfl,rfl,trivial⟩ ?_
 have k1:=fun w=>cmpi_holds X.length Z.length w
 rcases Nat.lt_trichotomy X.length Z.length with hlt|heq|hgt
 ·rw [cmpI_lt (by omega)] at k1
  rw [cmpI_lt (by have:=l1 hlt;omega)]
  all_goals (refine go ?_;and_intros<;>(try exact trivial)<;>repeat (first|refine fun (Bk:Nat)=>?_|intro h))
  repeat' ((first|(apply G.callV (g:=67);rfl;rfl;rfl;rfl;exact fun w _=>k1 w))<;>(refine go ?_;and_intros<;>(try exact trivial)<;>repeat (first|refine fun (Bk:Nat)=>?_|intro h)))
  all_goals refine ret1b Tryd.func57 Tryd.results57 ?_
  all_goals rfl
 ·have hce:cmpI X.length Z.length=0:=by rw [heq,cmpI_eq]
  rw [hce] at k1
  clear l1 l2 hce
  all_goals (refine go ?_;and_intros<;>(try exact trivial)<;>repeat (first|refine fun (Bk:Nat)=>?_|intro h))
  repeat' ((first|(apply G.callV (g:=67);rfl;rfl;rfl;rfl;exact fun w _=>k1 w))<;>(refine go ?_;and_intros<;>(try exact trivial)<;>repeat (first|refine fun (Bk:Nat)=>?_|intro h)))
  refine J.loop (c:=_) (X.length,(X.length:Int)-1) (fun x=>x.1) (fun x=>[(0,.slice a X.length c),(1,.slice b Z.length d),(6,.int .i64 x.2)]) (fun x=>[]) (fun x=>x.1≤X.length∧x.2=(x.1:Int)-1∧vL B (X.drop x.1)=vL B (Z.drop x.1)) ?_ sbT sbL ?_
  ·exact ⟨Nat.le_refl _,rfl,by rw [List.drop_length,heq,List.drop_length]⟩
  intro ⟨k,z⟩ ⟨hk,hz,hd⟩ ih
  dsimp only at hk hz hd ⊢
  rcases Nat.eq_zero_or_pos k with rfl|h0
  ·have e2:m=n:=by rw [← vx,← vy];exact hd
   rw [e2,cmpI_eq]
   all_goals (refine go ?_;and_intros<;>(try exact trivial)<;>repeat (first|refine fun (Bk:Nat)=>?_|intro h))
   all_goals refine ret1b Tryd.func57 Tryd.results57 ?_
   all_goals rfl
  ·obtain ⟨i,rfl⟩:∃ i,k=i+1:=⟨k-1,by omega⟩
   have hzi:z=(i:Int):=by omega
   subst hzi
   obtain ⟨ba,oa,rfl,hra⟩:=hA.at i (by omega)
   obtain ⟨bb,ob,rfl,hrb⟩:=hB.at i (by omega)
   have g1:X.getD i 0=X[i]:=by rw [List.getD_eq_getElem?_getD,List.getElem?_eq_getElem (by omega)];rfl
   have g2:Z.getD i 0=Z[i]:=by rw [List.getD_eq_getElem?_getD,List.getElem?_eq_getElem (by omega)];rfl
   have k2:=fun w=>cmpu_holds X[i] Z[i] w
   rcases Nat.lt_trichotomy X[i] Z[i] with hlt|he|hgt
   ·have hlt2:=cmp_top h2 hx heq (by omega) hd (by omega)
    rw [vx,vy] at hlt2
    rw [cmpI_lt (by omega)] at k2
    rw [cmpI_lt (by omega)]
    generalize X[i]=u at *
    generalize Z[i]=v at *
    all_goals (refine go ?_;and_intros<;>(try exact trivial)<;>repeat (first|refine fun (Bk:Nat)=>?_|intro h))
    repeat' ((first|(apply G.callV (g:=68);rfl;rfl;rfl;rfl;exact fun w _=>k2 w))<;>(refine go ?_;and_intros<;>(try exact trivial)<;>repeat (first|refine fun (Bk:Nat)=>?_|intro h)))
    all_goals refine ret1b Tryd.func57 Tryd.results57 ?_
    all_goals rfl
   ·have hd2:vL B (X.drop i)=vL B (Z.drop i):=by rw [vL_drop_succ (x:=X) (k:=i) (by omega),vL_drop_succ (x:=Z) (k:=i) (by omega),hd,g1,g2,he]
    rw [he,cmpI_eq] at k2
    rw [he] at hra g1
    generalize X[i]=u at *
    generalize Z[i]=v at *
    all_goals (refine go ?_;and_intros<;>(try exact trivial)<;>repeat (first|refine fun (Bk:Nat)=>?_|intro h))
    repeat' ((first|(apply G.callV (g:=68);rfl;rfl;rfl;rfl;exact fun w _=>k2 w))<;>(refine go ?_;and_intros<;>(try exact trivial)<;>repeat (first|refine fun (Bk:Nat)=>?_|intro h)))
    exact J.fin (ih (i,(i:Int)-1) ⟨by omega,rfl,hd2⟩ (by omega))
   ·have hlt2:=cmp_top h2 hy heq.symm (by omega) hd.symm (by omega)
    rw [vx,vy] at hlt2
    rw [cmpI_gt (by omega)] at k2
    rw [cmpI_gt (by omega)]
    generalize X[i]=u at *
    generalize Z[i]=v at *
    all_goals (refine go ?_;and_intros<;>(try exact trivial)<;>repeat (first|refine fun (Bk:Nat)=>?_|intro h))
    repeat' ((first|(apply G.callV (g:=68);rfl;rfl;rfl;rfl;exact fun w _=>k2 w))<;>(refine go ?_;and_intros<;>(try exact trivial)<;>repeat (first|refine fun (Bk:Nat)=>?_|intro h)))
    all_goals refine ret1b Tryd.func57 Tryd.results57 ?_
    all_goals rfl
 ·rw [cmpI_gt (by omega)] at k1
  rw [cmpI_gt (by have:=l2 hgt;omega)]
  all_goals (refine go ?_;and_intros<;>(try exact trivial)<;>repeat (first|refine fun (Bk:Nat)=>?_|intro h))
  repeat' ((first|(apply G.callV (g:=67);rfl;rfl;rfl;rfl;exact fun w _=>k1 w))<;>(refine go ?_;and_intros<;>(try exact trivial)<;>repeat (first|refine fun (Bk:Nat)=>?_|intro h)))
  all_goals refine ret1b Tryd.func57 Tryd.results57 ?_
  all_goals rfl
end Go.Proofs.YtcdgibkbbcekhaaDoor
