/- Wide numbers: Wide, Plus. The names of assets as keys of a map. Maps whose keys are names, whole. -/
import Derived.Test.YtckcamlicgdklaaGreatN01
import Derived.Test.YtckcamlicgdklaaGreatProg
import Derived.Laws.Externs
import Derived.Lib.Hide
import Derived.DeepKeys3
import Derived.Laws.StructEq
namespace Go.Proofs.YtckcamlicgdklaaGreat
open Go.RowKit Go.Mo
/-- The two words of a wide number that is z, up to 2^128. -/
def hiW (z:Int):Int:=wrap64 (z / 18446744073709551616)
def loW (z:Int):Int:=z % 18446744073709551616
def wideV (z:Int):Value:=.agg #[.int .i64 (hiW z),.int .u64 (loW z)]
theorem hi_add (a b:Int):hiW (a+b)=wrap64 ((hiW a % 18446744073709551616+hiW b % 18446744073709551616+(loW a+loW b) / 18446744073709551616) % 18446744073709551616):=by
 unfold hiW loW wrap64; omega
theorem lo_add (a b:Int):loW (a+b)=(loW a+loW b) % 18446744073709551616:=by unfold loW; omega
theorem wrap_u64 (n:Int):IntKind.u64.wrap n=n % 18446744073709551616:=by simp [IntKind.wrap,IntKind.bits,IntKind.signed]
theorem res8 {tmps:Array Value} {b:Nat} {W:World} {x y:Value} (ht:tmps[2]?.getD undef=.pointer (some ⟨b,0,none⟩)) (h:W.heap[b]?=some (.cells #[x,y] 48 (0,0))):(results Tryz.f61 tmps).run Tryz.prog W=.ok (.agg #[x,y]) W:=by
 have s0:=cellB h 0
 have s1:=cellB h 1
 simp only [List.getElem?_toArray,List.getElem?_cons_zero,List.getElem?_cons_succ] at s0 s1
 simp [results,Tryz.results61,go_sem,ht,s0,s1]
theorem res7 {tmps:Array Value} {b:Nat} {W:World} {x y:Value} (ht:tmps[2]?.getD undef=.pointer (some ⟨b,0,none⟩)) (h:W.heap[b]?=some (.cells #[x,y] 48 (0,0))):(results Tryz.f60 tmps).run Tryz.prog W=.ok (.agg #[x,y]) W:=by
 have s0:=cellB h 0
 have s1:=cellB h 1
 simp only [List.getElem?_toArray,List.getElem?_cons_zero,List.getElem?_cons_succ] at s0 s1
 simp [results,Tryz.results60,go_sem,ht,s0,s1]
theorem wide_calls (n:Int) (h0:-9223372036854775808<=n) (h1:n<=9223372036854775807) (w:World):Calls Tryz.prog 61 #[.int .i64 n] w fun e w'=>e=.returned (wideV n)/\Mod N0 w w':=by
 go_enter Tryz.func61,Tryz.ntmps61
 go_wp2_with fail
 have e1:n / 9223372036854775808=hiW n:=by unfold hiW wrap64; omega
 have e2:IntKind.u64.wrap n=loW n:=wrap_u64 n
 rw [e1,e2]
 exact bodyPost_ret (v:=wideV n) (res8 rfl (newB w _)) rfl ⟨rfl,(Mod.refl _ w).alloc _⟩
theorem add64_call (x y c:Int) (hx:0<=x) (hy:0<=y) (hc0:0<=c) (hc:c<=1) (w:World) :
  (callFunc 62 #[.int .u64 x,.int .u64 y,.int .u64 c]).run Tryz.prog w=.ok (.value (.tuple #[.int .u64 ((x+y+c) % 18446744073709551616),.int .u64 ((x+y+c) / 18446744073709551616)])) w:=by
 rw [run_callFunc_extern (fn:=Tryz.f62) (e:=add64Entry) (by kernel_rfl) (by kernel_rfl) (by kernel_rfl) (by kernel_rfl) (by kernel_rfl),run_add64 x y c hx hy hc0 hc]
 rfl
/-- v is a slice of the wide numbers zs. -/
def WideAt (w:World) (v:Value) (zs:List Int):Prop:=
 ∃ a c,v=.slice a zs.length c/\∀ i z,zs[i]?=some z->∃ L off,a=some ⟨L,off,none⟩/\L<w.heap.size/\w.cell? ⟨L,off+i * 2,none⟩=some (.int .i64 (hiW z))/\w.cell? ⟨L,off+i * 2+1,none⟩=some (.int .u64 (loW z))
theorem plus_calls (w:World) (v:Value) (zs:List Int) (h:WideAt w v zs) (hn:zs.length<=4611686018427387904):Calls Tryz.prog 60 #[v] w fun e w'=>e=.returned (wideV zs.sum)/\Mod N0 w w':=by
 obtain ⟨a,c,rfl,hel⟩:=h
 have HE:=hh hel
 clear hel
 go_enter Tryz.func60,Tryz.ntmps60
 go_wp2_with fail
 go_loopw [11] (fun i wr=>∃ k:Nat,k<=zs.length/\i=.int .i64 k/\wr.heap[w.heap.size]?=some (.cells #[.int .i64 (hiW (zs.take k).sum),.int .u64 (loW (zs.take k).sum)] 48 (0,0))/\Mod N0 w wr) (fun i _=>zs.length - (intOf i).toNat)
 case atStart=>exact ⟨0,by omega,rfl,by simpa [hiW,loW,wrap64] using newB w (.cells #[.int .i64 0,.int .u64 0] 48),(Mod.refl _ w).alloc _⟩
 case round=>
  obtain ⟨k,hk,rfl,hb,hm⟩:=hrel
  have s0:=cellB hb 0
  have s1:=cellB hb 1
  have f0:=frozB hb 0
  have f1:=frozB hb 1
  simp only [List.getElem?_toArray,List.getElem?_cons_zero,List.getElem?_cons_succ] at s0 s1
  by_cases hlt:k<zs.length
  ·obtain ⟨z,hz⟩:∃ z,zs[k]?=some z:=⟨_,List.getElem?_eq_getElem hlt⟩
   obtain ⟨L,off,rfl,hL,k0,k1⟩:=HE.out k z hz
   have e0:=(hm.cell (p:=⟨L,off+k * 2,none⟩) hL (fun q=>q)).trans k0
   have e1:=(hm.cell (p:=⟨L,off+k * 2+1,none⟩) hL (fun q=>q)).trans k1
   have hs:(zs.take (k+1)).sum=(zs.take k).sum+z:=by rw [List.take_add_one,hz]; simp
   have sa0:∀ o,(wr.alloc o).cell? ⟨w.heap.size,0,none⟩=some (.int .i64 (hiW (zs.take k).sum)):=fun o=>(cellB (allocB hb o) 0).trans (by simp)
   have sa1:∀ o,(wr.alloc o).cell? ⟨w.heap.size,1,none⟩=some (.int .u64 (loW (zs.take k).sum)):=fun o=>(cellB (allocB hb o) 1).trans (by simp)
   have fa0:∀ o,(wr.alloc o).frozen? ⟨w.heap.size,0,none⟩=false:=fun o=>frozB (allocB hb o) 0
   have fa1:∀ o,(wr.alloc o).frozen? ⟨w.heap.size,1,none⟩=false:=fun o=>frozB (allocB hb o) 1
   have ha1:∀ W,(callFunc 62 #[.int .u64 (loW (zs.take k).sum),.int .u64 (loW z),.int .u64 0]).run Tryz.prog W=.ok (.value (.tuple #[.int .u64 (loW ((zs.take k).sum+z)),.int .u64 ((loW (zs.take k).sum+loW z) / 18446744073709551616)])) W:=fun W=>by
    rw [add64_call _ _ 0 (by unfold loW; omega) (by unfold loW; omega) (by omega) (by omega) W,lo_add,Int.add_zero]
   have ha2:∀ W,(callFunc 62 #[.int .u64 (IntKind.u64.wrap (hiW (zs.take k).sum)),.int .u64 (IntKind.u64.wrap (hiW z)),.int .u64 ((loW (zs.take k).sum+loW z) / 18446744073709551616)]).run Tryz.prog W=.ok (.value (.tuple #[.int .u64 ((hiW (zs.take k).sum % 18446744073709551616+hiW z % 18446744073709551616+(loW (zs.take k).sum+loW z) / 18446744073709551616) % 18446744073709551616),.int .u64 ((hiW (zs.take k).sum % 18446744073709551616+hiW z % 18446744073709551616+(loW (zs.take k).sum+loW z) / 18446744073709551616) / 18446744073709551616)])) W:=fun W=>by
    rw [wrap_u64,wrap_u64,add64_call _ _ _ (by omega) (by omega) (by unfold loW; omega) (by unfold loW; omega) W]
   have HH:=hh (And.intro hb (And.intro hm hs))
   clear hb hm hs k0 k1
   go_wp2_with fail
   go_roundw
   case rel=>
    refine ⟨k+1,by omega,by simp,?_,((HH.out.2.1.alloc _).setCell (by simp) _).setCell (by simp) _⟩
    rw [setB (setB (allocB HH.out.1 _) 0 _) 1 _,HH.out.2.2,hi_add]
    simp
   case measure=>simp [intOf]; omega
  ·have e:k=zs.length:=by omega
   subst e
   rw [List.take_length] at hb s0 s1
   have HH:=hh (And.intro hb hm)
   clear hb hm
   go_wp2_with fail
   refine bodyPost_ret (v:=wideV zs.sum) (res7 rfl (?_:_=some (Obj.cells #[.int .i64 (hiW zs.sum),.int .u64 (loW zs.sum)] 48 (0,0)))) rfl ⟨rfl,(HH.out.2.setCell (by simp) _).setCell (by simp) _⟩
   rw [setB (setB HH.out.1 0 _) 1 _]; rfl
end Go.Proofs.YtckcamlicgdklaaGreat
namespace Go.Proofs.YtckcamlicgdklaaGreat
open Go.RowKit Go.Mo
abbrev Bs:=List UInt8
def by8 (x:UInt8):Value:=.int .u8 (x.toNat:Int)
def lit8 (x:UInt8):Lit:=.int .u8 (x.toNat:Int)
/-- An asset's name: a policy of 32 bytes, a string. -/
structure Nm where
 policy:Bs
 name:Bs
 len:policy.length=32
 size:name.length<=maxLen
deriving DecidableEq
def nmCells (a:Nm):List Value:=a.policy.map by8 ++ [.string ⟨a.name.toArray⟩]
def nmV (a:Nm):Value:=.agg (nmCells a).toArray
theorem Tryz.c27:Tryz.prog.cellsOf 27=32:=by kernel_rfl
theorem Tryz.c93:Tryz.prog.cellsOf 171=33:=by kernel_rfl
theorem Tryz.c9:Tryz.prog.cellsOf 9=1:=by kernel_rfl
theorem Tryz.c5:Tryz.prog.cellsOf 5=1:=by kernel_rfl
theorem Tryz.k93:Tryz.prog.keyTypeAt 3 171=true:=by kernel_rfl
theorem range_mapM_lits (D:Nat):∀ (p q:Bs),(List.range' q.length p.length).mapM (fun i=>Tryz.prog.keyLits (D+1) 5 ((((q ++ p).map by8).drop i).take 1))=some (p.map fun x=>[lit8 x])
|[],q=>by simp
|x :: p,q=>by
  have ih:=range_mapM_lits D p (q ++ [x])
  rw [List.length_cons,List.range'_succ,List.mapM_cons]
  have e:(((q ++ x :: p).map by8).drop q.length).take 1=[by8 x]:=by simp
  have hw:(Lit.int .u8 (x.toNat:Int)).wf=true:=by
   have:=x.toNat_lt
   simp [Lit.wf,IntKind.min,IntKind.max,IntKind.signed,IntKind.bits]
   omega
  have e2:Tryz.prog.keyLits (D+1) 5 [by8 x]=some [lit8 x]:=by
   simp only [Program.keyLits,Tryz.underlying5,by8,lit8,hw,and_self,if_true]
  rw [e,e2]
  simp only [List.length_append,List.length_cons,List.length_nil,List.append_assoc,List.cons_append,List.nil_append,Nat.zero_add,List.map_append,List.map_cons] at ih
  simp [ih]
theorem keyLits_array {P:Program} {D:Nat} {t e:TypeId} {n:Nat} {cs:List Value} (hu:P.underlying t=some (.array n e)) (hc:cs.length=P.cellsOf t) :
  P.keyLits (D+1) t cs=((List.range n).mapM fun i=>P.keyLits D e ((cs.drop (i * P.cellsOf e)).take (P.cellsOf e))).map List.flatten:=by
 conv=>lhs; unfold Program.keyLits
 simp only [hu,hc,if_true]
theorem keyLits_struct {P:Program} {D:Nat} {t:TypeId} {fs:Array Field} {cs:List Value} (hu:P.underlying t=some (.struct fs)) (hc:cs.length=P.cellsOf t) (hn:fs.all (·.name != "_")=true) :
  P.keyLits (D+1) t cs=(fs.toList.mapM fun f=>P.keyLits D f.type ((cs.drop f.offset).take (P.cellsOf f.type))).map List.flatten:=by
 conv=>lhs; unfold Program.keyLits
 simp only [hu,hc,hn,and_self,if_true]
theorem keyLits_string {P:Program} {D:Nat} {t:TypeId} {s:ByteArray} (hu:P.underlying t=some .string) (hs:s.size<=maxLen):P.keyLits (D+1) t [.string s]=some [.string s.data.toList]:=by
 unfold Program.keyLits
 simp only [hu,hs,if_true]
theorem flatten_map_single (p:Bs):(p.map fun x=>[lit8 x]).flatten=p.map lit8:=by
 induction p with
|nil=>rfl
|cons x p ih=>simp [ih]
theorem keyLits_policy (D:Nat) (p:Bs) (hp:p.length=32):Tryz.prog.keyLits (D+2) 27 (p.map by8)=some (p.map lit8):=by
 have h0:=range_mapM_lits D p []
 rw [keyLits_array Tryz.underlying27 (by rw [List.length_map,hp,Tryz.c27])]
 simp only [List.nil_append,List.length_nil,hp,← List.range_eq_range'] at h0
 simp only [Tryz.c5,Nat.mul_one]
 rw [h0,Option.map_some,flatten_map_single]
theorem keyLits_nm (D:Nat) (a:Nm):Tryz.prog.keyLits (D+3) 171 (nmCells a)=some (a.policy.map lit8 ++ [.string a.name]):=by
 have hl:=a.len
 have hs:=a.size
 have hm:(a.policy.map by8).length=32:=by rw [List.length_map,hl]
 rw [keyLits_struct Tryz.underlying171 (by rw [Tryz.c93]; simp [nmCells,hl]) (by simp)]
 have h1:((nmCells a).drop 0).take (Tryz.prog.cellsOf 27)=a.policy.map by8:=by
  rw [Tryz.c27,List.drop_zero,nmCells,List.take_append_of_le_length (by omega),List.take_of_length_le (by omega)]
 have h2:((nmCells a).drop 32).take (Tryz.prog.cellsOf 9)=[.string ⟨a.name.toArray⟩]:=by
  rw [Tryz.c9,nmCells,List.drop_append_of_le_length (by omega),List.drop_of_length_le (by omega)]; rfl
 simp only [List.mapM_cons,List.mapM_nil,h1,h2,keyLits_policy D a.policy hl,keyLits_string (s:=⟨a.name.toArray⟩) Tryz.underlying9 (by simpa [ByteArray.size] using hs)]
 simp
theorem nm_formed (a:Nm):(nmV a).formed Tryz.prog 171=true:=by
 have:=a.len
 simp [Value.formed,nmV,Tryz.underlying171,Tryz.c93,nmCells,this]
theorem lit8_inj:∀ (p q:Bs),p.map lit8=q.map lit8->p=q
|[],[],_=>rfl
|[],_ :: _,h=>by simp at h
|_ :: _,[],h=>by simp at h
|x :: p,y :: q,h=>by
  simp only [List.map_cons,List.cons.injEq] at h
  have hx:x=y:=by
   have:=h.1
   simp only [lit8,Lit.int.injEq,true_and] at this
   exact UInt8.toNat_inj.1 (by omega)
  rw [hx,lit8_inj p q h.2]
theorem nm_lits (a b:Nm):(a.policy.map lit8 ++ [Lit.string a.name]=b.policy.map lit8 ++ [Lit.string b.name]) ↔ a=b:=by
 constructor
 ·intro h
  have hl:(a.policy.map lit8).length=(b.policy.map lit8).length:=by rw [List.length_map,List.length_map,a.len,b.len]
  obtain ⟨h1,h2⟩:=List.append_inj h hl
  have hp:=lit8_inj _ _ h1
  have hn:a.name=b.name:=by simpa using h2
  cases a; cases b
  simp only at hp hn
  subst hp; subst hn
  rfl
 ·rintro rfl; rfl
theorem nm_eq (a b:Nm) (w:World):(Op.equal 171 (nmV a) (nmV b)).run Tryz.prog w=.ok (decide (a=b)) w:=by
 obtain ⟨r,hr,hiff⟩:=run_equalIn_deep (P:=Tryz.prog) 9997 3 171 Tryz.k93 w 3 3 (nmV a) (nmV b) _ _ (nm_formed a) (nm_formed b) (by simpa [nmV,Value.cells] using keyLits_nm 0 a) (by simpa [nmV,Value.cells] using keyLits_nm 0 b)
 rw [nm_lits] at hiff
 have:r=decide (a=b):=by
  cases r with
 |true=>simp [hiff.1 rfl]
 |false=>
   have:¬ a=b:=fun e=>by have:=hiff.2 e; cases this
   simp [this]
 rw [← this]
 exact hr
theorem nm_check (a:Nm) (e:Bool) (w:World):(Instr.checkKey e 10000 171 (nmV a)).run Tryz.prog w=.ok () w:=
 run_checkKey_deep (P:=Tryz.prog) e 9997 3 171 Tryz.k93 w 3 (nmV a) _ (nm_formed a) (by simpa [nmV,Value.cells] using keyLits_nm 0 a)
end Go.Proofs.YtckcamlicgdklaaGreat
namespace Go.Proofs.YtckcamlicgdklaaGreat
open Go.RowKit Go.Mo
/-! maps with int keys, whole -/
def entsN:Nat->List (Nm×Value)->List MapEntry
|_,[]=>[]
|i,x :: r=>⟨nmV x.1,x.2,i⟩ :: entsN (i+1) r
def nmap (l:List (Nm×Value)):Obj:=.map (entsN 0 l).toArray l.length
def lkN {α:Type}:List (Nm×α)->Nm->Option α
|[],_=>none
|x :: r,k=>if x.1=k then some x.2 else lkN r k
def upN {α:Type}:List (Nm×α)->Nm->α->List (Nm×α)
|[],k,v=>[(k,v)]
|x :: r,k,v=>if x.1=k then (k,v) :: r else x :: upN r k v
def atN {α:Type}:List (Nm×α)->Nm->Nat->Option (Nat×α)
|[],_,_=>none
|x :: r,k,i=>if x.1=k then some (i,x.2) else atN r k (i+1)
theorem ents_lengthN:∀ (l:List (Nm×Value)) (i:Nat),(entsN i l).length=l.length
|[],_=>rfl
|x :: r,i=>by simp [entsN,ents_lengthN r]
theorem findAsking_entsN (k:Nm) (w:World):∀ (l:List (Nm×Value)) (i j:Nat),(Instr.findAsking 171 (nmV k) (entsN j l) i).run Tryz.prog w=.ok (atN l k i) w
|[],_,_=>by simp [entsN,Instr.findAsking,atN]
|x :: r,i,j=>by
  have ih:=findAsking_entsN k w r (i+1) (j+1)
  by_cases h:x.1=k
  ·subst h; simp [entsN,Instr.findAsking,nm_eq,atN]
  ·have h':¬ k=x.1:=fun e=>h e.symm
   simp [entsN,Instr.findAsking,nm_eq,atN,h,h',ih]
theorem sameBits_self8 (n:Nat):∀ p:Bs,((p.map by8).zip (p.map by8)).all (fun x=>Instr.sameBits n x.1 x.2)=true
|[]=>rfl
|x :: p=>by
  have:=sameBits_self8 n p
  cases n <;> simp [by8,Instr.sameBits] <;> simpa [by8] using this
theorem sameBits_nm (k:Nm):Instr.sameBits 10000 (nmV k) (nmV k)=true:=by
 have h:=sameBits_self8 9999 k.policy
 have e:(nmCells k).zip (nmCells k)=(k.policy.map by8).zip (k.policy.map by8) ++ [(.string ⟨k.name.toArray⟩,.string ⟨k.name.toArray⟩)]:=by
  rw [nmCells,List.zip_append rfl]; rfl
 show Instr.sameBits (9999+1) _ _=true
 simp only [nmV,Instr.sameBits,e,List.all_append,h]
 simp only [Instr.sameBits,List.all_cons,List.all_nil,Bool.and_true,beq_self_eq_true,beq_toListBytes]
theorem at?_lkN {α:Type} (k:Nm):∀ (l:List (Nm×α)) (i:Nat),(atN l k i).map (·.2)=lkN l k
|[],_=>rfl
|x :: r,i=>by
  by_cases h:x.1=k
  ·simp [atN,lkN,h]
  ·simp [atN,lkN,h,at?_lkN k r]
theorem at?_noneN {α:Type} (k:Nm):∀ (l:List (Nm×α)) (i:Nat),atN l k i=none->∀ v,upN l k v=l ++ [(k,v)]
|[],_,_,_=>rfl
|x :: r,i,h,v=>by
  by_cases e:x.1=k
  ·simp [atN,e] at h
  ·simp [atN,e] at h
   simp [upN,e,at?_noneN k r _ h v]
theorem ents_appendN:∀ (l:List (Nm×Value)) (i:Nat) (k:Nm) (v:Value),entsN i (l ++ [(k,v)])=entsN i l ++ [⟨nmV k,v,i+l.length⟩]
|[],i,k,v=>by simp [entsN]
|x :: r,i,k,v=>by simp [entsN,ents_appendN r]; omega
theorem at?_someN (k:Nm):∀ (l:List (Nm×Value)) (i j n:Nat) (v:Value),atN l k i=some (n,v)->i<=n /\
  ((entsN j l)[n - i]?).map (·.key)=some (nmV k)/\∀ u,(entsN j l).modify (n - i) (fun e=>{e with key:=nmV k,val:=u})=entsN j (upN l k u)/\(upN l k u).length=l.length
|[],_,_,_,_,h=>by simp [atN] at h
|x :: r,i,j,n,v,h=>by
  by_cases e:x.1=k
  ·subst e
   simp [atN] at h
   obtain ⟨rfl,rfl⟩:=h
   simp [entsN,upN]
  ·simp [atN,e] at h
   obtain ⟨h1,h2,h3⟩:=at?_someN k r (i+1) (j+1) n v h
   have e1:n - i=(n - (i+1))+1:=by omega
   refine ⟨by omega,?_,fun u=>?_⟩
   ·rw [e1]; simpa [entsN] using h2
   ·rw [e1]; simp [entsN,upN,e,h3 u]
section
variable {w:World} {b:Nat} {l:List (Nm×Value)}
theorem run_findKeyN (k:Nm):(Instr.findKey 171 (nmV k) (entsN 0 l)).run Tryz.prog w=.ok (atN l k 0) w:=by
 cases l with
|nil=>simp [Instr.findKey,run_underlying Tryz.underlying171,entsN,Instr.findNow,atN]
|cons x r=>
  have h:=findAsking_entsN k w (x :: r) 0 0
  simp only [entsN] at h
  simp [Instr.findKey,run_underlying Tryz.underlying171,entsN,Instr.findNow,Instr.sameNow,nmV]
  exact h
theorem run_lookupN {T E:TypeId} (hT:Tryz.prog.underlying T=some (.map 171 E)) (h:w.heap[b]?=some (nmap l)) (k:Nm) {z:Value} (hz:(zeroValue E).run Tryz.prog w=.ok z w) :
  (Instr.lookup T (.map (some b)) (nmV k) false).run Tryz.prog w=.ok ((lkN l k).getD z) w:=by
 have hg:(getObj b).run Tryz.prog w=.ok (nmap l) w:=by simp [getObj,Sem.run,h,nmap]
 have hat:=at?_lkN k l 0
 simp only [Instr.lookup,Sem.run_bind,run_underlying hT,Result.andThen_ok,hg,nmap,Sem.run_pure,nm_check,run_findKeyN]
 cases ha:atN l k 0 with
|none=>rw [ha] at hat; simp at hat; simp [← hat,hz]
|some p=>obtain ⟨n,v⟩:=p; rw [ha] at hat; simp at hat; simp [← hat]
theorem run_mapUpdateN {T E:TypeId} (hT:Tryz.prog.underlying T=some (.map 171 E)) (h:w.heap[b]?=some (nmap l)) (k:Nm) (v:Value) :
  (Instr.mapUpdate T (.map (some b)) (nmV k) v).run Tryz.prog w=.ok () (w.layObj b (nmap (upN l k v))):=by
 have hg:(getObj b).run Tryz.prog w=.ok (nmap l) w:=by simp [getObj,Sem.run,h,nmap]
 have hs:∀ o,(setObj b o).run Tryz.prog w=.ok () (w.layObj b o):=fun o=>by simp [setObj,Sem.run,h,nmap,World.layObj]
 simp only [Instr.mapUpdate,Sem.run_bind,run_underlying hT,Result.andThen_ok,hg,nmap,nm_check,run_findKeyN]
 cases ha:atN l k 0 with
|none=>
  have:=at?_noneN k l 0 ha v
  simp [hs,this,ents_appendN]
|some p=>
  obtain ⟨n,u⟩:=p
  obtain ⟨_,h2,h3⟩:=at?_someN k l 0 0 n u ha
  obtain ⟨h4,h5⟩:=h3 v
  simp only [Nat.sub_zero] at h2 h4
  simp [h2,Instr.keyThatStays,sameBits_nm,hs,h5,← h4]
end
theorem ents_getN:∀ (l:List (Nm×Value)) (j i:Nat),(entsN j l)[i]?=(l[i]?).map fun x=>⟨nmV x.1,x.2,j+i⟩
|[],_,_=>by simp [entsN]
|x :: r,j,0=>by simp [entsN]
|x :: r,j,i+1=>by simp [entsN,ents_getN r (j+1) i]; congr 1; funext y; congr 1; omega
theorem ents_bornN (l:List (Nm×Value)) (j:Nat) {e:MapEntry} (h:e∈entsN j l):∃ i x,l[i]?=some x/\e=⟨nmV x.1,x.2,j+i⟩:=by
 obtain ⟨i,hi⟩:=List.mem_iff_getElem?.1 h
 rw [ents_getN] at hi
 cases hx:l[i]? with
|none=>simp [hx] at hi
|some x=>simp [hx] at hi; exact ⟨i,x,hx,hi.symm⟩
/-- The iterator over a map of n entries that has shown those of 'seen'. -/
def iterN (b n:Nat) (seen:List Nat):Obj:=.mapIter (some b) n seen.toArray n
section
variable {w:World} {b r:Nat} {l:List (Nm×Value)}
theorem run_rangeN {T E:TypeId} (hT:Tryz.prog.underlying T=some (.map 171 E)) (h:w.heap[b]?=some (nmap l)) :
  (Instr.range T (.map (some b))).run Tryz.prog w=.ok (.pointer (some ⟨w.heap.size,0,none⟩)) (w.alloc (iterN b l.length [])):=by
 have hg:(getObj b).run Tryz.prog w=.ok (nmap l) w:=by simp [getObj,Sem.run,h,nmap]
 simp [Instr.range,run_underlying hT,hg,nmap,newObj,Sem.run,iterN]
theorem all_ge_falseN (l:List (Nm×Value)) (hl:l≠[]):(entsN 0 l).toArray.all (fun e=>decide (e.born≥l.length))=false:=by
 cases l with
|nil=>exact absurd rfl hl
|cons x r=>simp [entsN]
theorem left_filterN (l:List (Nm×Value)) (seen:List Nat) :
  ((entsN 0 l).toArray.filter fun e=>!seen.toArray.contains e.born)=((entsN 0 l).filter fun e=>!seen.contains e.born).toArray:=by simp
theorem old_filterN (l:List (Nm×Value)) (L:List MapEntry) (hL:∀ e∈L,e∈entsN 0 l):(L.toArray.filter fun e=>decide (e.born<l.length))=L.toArray/\(L.toArray.filter fun e=>decide (e.born≥l.length))=#[]:=by
 have hb:∀ e∈L,e.born<l.length:=fun e he=>by
  obtain ⟨i,x,hi,rfl⟩:=ents_bornN l 0 (hL e he)
  have:=(List.getElem?_eq_some_iff.1 hi).1
  simpa using this
 constructor
 ·simp only [List.filter_toArray]
  congr 1
  exact List.filter_eq_self.2 fun e he=>by simpa using hb e he
 ·simp only [List.filter_toArray]
  congr 1
  exact List.filter_eq_nil_iff.2 fun e he=>by have:=hb e he; simp; omega
theorem run_nextN (h:w.heap[b]?=some (nmap l)) (seen:List Nat) (hr:w.heap[r]?=some (iterN b l.length seen)) :
  ((∀ i,i<l.length->i∈seen)/\∀ T,(Instr.next (.pointer (some ⟨r,0,none⟩)) false T).run Tryz.prog w=.ok (.tuple #[.bool false]) w) ∨
  ∃ i x w',l[i]?=some x/\i ∉ seen/\(∀ T,(Instr.next (.pointer (some ⟨r,0,none⟩)) false T).run Tryz.prog w=.ok (.tuple #[.bool true,nmV x.1,x.2]) w') /\
   w'.heap[r]?=some (iterN b l.length (seen ++ [i]))/\w.grownBy w' (some r)/\w'.heap.size=w.heap.size:=by
 have hgr:(getObj r).run Tryz.prog w=.ok (iterN b l.length seen) w:=by simp [getObj,Sem.run,hr,iterN]
 have hgb:(getObj b).run Tryz.prog w=.ok (nmap l) w:=by simp [getObj,Sem.run,h,nmap]
 have hne:r<w.heap.size:=ltB hr
 have hsz:(entsN 0 l).toArray.isEmpty=l.isEmpty:=by cases l <;> simp [entsN]
 have hL:∀ e∈(entsN 0 l).filter (fun e=>!seen.contains e.born),e∈entsN 0 l:=fun e he=>(List.mem_filter.1 he).1
 have hcheck:(!seen.toArray.isEmpty && !(entsN 0 l).toArray.isEmpty && (entsN 0 l).toArray.all fun e=>decide (e.born≥l.length))=false:=by
  by_cases hl:l=[]
  ·subst hl; simp [entsN]
  ·rw [all_ge_falseN l hl]; simp
 have hs:∀ (v:World) o,v.heap=w.heap->(setObj r o).run Tryz.prog v=.ok () (v.layObj r o):=fun v o hv=>by simp [setObj,Sem.run,hv,hr,iterN,World.layObj]
 simp only [Instr.next,Sem.run_bind,hgr,iterN,Result.andThen_ok,hgb,nmap,hcheck,left_filterN,(old_filterN l _ hL).1,(old_filterN l _ hL).2]
 generalize hF:(entsN 0 l).filter (fun e=>!seen.contains e.born)=F
 have hF':∀ e∈F,e∈entsN 0 l/\e.born ∉ seen:=fun e he=>by
  rw [← hF] at he
  obtain ⟨h1,h2⟩:=List.mem_filter.1 he
  exact ⟨h1,by simpa using h2⟩
 cases F with
|nil=>
  refine Or.inl ⟨fun i hi=>?_,?_⟩
  ·have hm:(⟨nmV l[i].1,l[i].2,0+i⟩:MapEntry)∈entsN 0 l:=List.mem_iff_getElem?.2 ⟨i,by rw [ents_getN]; simp [hi]⟩
   have:=List.filter_eq_nil_iff.1 hF _ hm
   simpa using this
  ·simp [choose,Sem.run,Question.forced]
|cons e0 F0=>
  refine Or.inr ?_
  obtain ⟨c,w',hrun,hc,hw'⟩:=run_choose_next Tryz.prog w (e0 :: F0).length (by simp)
  have hheap:w'.heap=w.heap:=by rcases hw' with rfl|rfl <;> rfl
  have hmem:(e0 :: F0)[c]∈e0 :: F0:=List.getElem_mem _
  obtain ⟨hm1,hm2⟩:=hF' _ hmem
  obtain ⟨i,x,hi,he⟩:=ents_bornN l 0 hm1
  simp only [Nat.zero_add] at he
  rw [he] at hm2
  have hget:((e0 :: F0).toArray.map some)[c]?=some (some ⟨nmV x.1,x.2,i⟩):=by
   rw [← he,Array.getElem?_map,List.getElem?_toArray,List.getElem?_eq_getElem hc]; rfl
  refine ⟨i,x,w'.layObj r (iterN b l.length (seen ++ [i])),hi,hm2,?_,?_,?_,?_⟩
  ·have e1:((if (e0 :: F0).toArray.isEmpty then #[none] else #[]) ++ Array.map some ((e0 :: F0).toArray ++ #[]))=(e0 :: F0).toArray.map some:=by simp
   have e2:((e0 :: F0).toArray.map some).size=(e0 :: F0).length:=by simp
   rw [e1,e2]
   simp only [Bool.false_eq_true,if_false,hrun,Result.andThen_ok,hget,Sem.run_bind,hs w' _ hheap,Sem.run_pure]
   simp [iterN]
  ·simp only [World.layObj,hheap]; simp [hne,iterN]
  ·refine ⟨?_,?_,?_,?_,?_⟩
   ·rcases hw' with rfl|rfl <;> rfl
   ·rcases hw' with rfl|rfl <;> rfl
   ·rcases hw' with rfl|rfl <;> rfl
   ·simp [World.layObj,hheap]
   ·intro k hk hn
    simp only [World.layObj,hheap]
    rw [Array.getElem?_setIfInBounds_ne (fun e=>hn (by rw [e]))]
  ·simp [World.layObj,hheap]
theorem run_entryN (h:w.heap[b]?=some (nmap l)) (seen:List Nat) (i:Nat) (x:Nm×Value) (hx:l[i]?=some x) (hr:w.heap[r]?=some (iterN b l.length (seen ++ [i]))) :
  (Instr.entry (.pointer (some ⟨r,0,none⟩))).run Tryz.prog w=.ok (.tuple #[nmV x.1,x.2]) w:=by
 have hgr:(getObj r).run Tryz.prog w=.ok (iterN b l.length (seen ++ [i])) w:=by simp [getObj,Sem.run,hr,iterN]
 have hgb:(getObj b).run Tryz.prog w=.ok (nmap l) w:=by simp [getObj,Sem.run,h,nmap]
 have hf:(entsN 0 l).find? (fun e=>e.born == i)=some ⟨nmV x.1,x.2,i⟩:=by
  rw [List.find?_eq_some_iff_getElem]
  have hi:=(List.getElem?_eq_some_iff.1 hx)
  obtain ⟨hi,hx'⟩:=hi
  refine ⟨by simp,i,by rw [ents_lengthN]; exact hi,?_,?_⟩
  ·have:=ents_getN l 0 i
   rw [hx] at this
   simp only [Nat.zero_add,Option.map_some] at this
   exact (List.getElem?_eq_some_iff.1 this).2
  ·intro j hj
   have hjl:j<(entsN 0 l).length:=by rw [ents_lengthN]; omega
   obtain ⟨k,y,hk,he⟩:=ents_bornN l 0 (List.getElem_mem hjl)
   have h2:=ents_getN l 0 j
   rw [List.getElem?_eq_getElem hjl,List.getElem?_eq_getElem (by omega:j<l.length)] at h2
   simp at h2
   rw [h2]
   simp; omega
 simp [Instr.entry,hgr,iterN,hgb,nmap,hf]
end
end Go.Proofs.YtckcamlicgdklaaGreat
