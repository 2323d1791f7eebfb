/- Copies: cells that are single ones, rows that are copied whole, boxes that are patched. Copies of leaf rows. -/
import Derived.Test.YtckcamlicgdklaaGreatN23
namespace Go.Proofs.YtckcamlicgdklaaGreat
open Go.RowKit Go.Mo
theorem ones_field {ds:List Value} {o m:Nat} (h:∀ u∈(ds.drop o).take m,u.oneCell'=true) {j:Nat} {u:Value} (hj:ds[j]?=some u) (h1:o<=j) (h2:j<o+m):u.oneCell'=true:=by
 refine h u (List.mem_of_getElem? (i:=j - o) ?_)
 rw [List.getElem?_take,if_pos (by omega),List.getElem?_drop,show o+(j - o)=j by omega]
 exact hj
theorem ones_int {w:World} {t:TypeId} {k:IntKind} {ds:List Value} (ht:Tryz.prog.underlying t=some (.int k)) (h:Rd w t ds):∀ u∈ds,u.oneCell'=true:=by
 obtain ⟨H,enc,fuel,y,h,_⟩:=h
 obtain ⟨n,rfl,_⟩:=DataW.trod_int ht h
 intro u hu; simp at hu; subst hu; rfl
theorem ones_bool {w:World} {t:TypeId} {ds:List Value} (ht:Tryz.prog.underlying t=some .bool) (h:Rd w t ds):∀ u∈ds,u.oneCell'=true:=by
 obtain ⟨H,enc,fuel,y,h,_⟩:=h
 obtain ⟨n,rfl,_⟩:=DataW.trod_bool ht h
 intro u hu; simp at hu; subst hu; rfl
theorem ones_string {w:World} {t:TypeId} {ds:List Value} (ht:Tryz.prog.underlying t=some .string) (h:Rd w t ds):∀ u∈ds,u.oneCell'=true:=by
 obtain ⟨H,enc,fuel,y,h,_⟩:=h
 obtain ⟨n,rfl,_⟩:=DataW.trod_string ht h
 intro u hu; simp at hu; subst hu; rfl
theorem ones_slice {w:World} {t e:TypeId} {ds:List Value} (ht:Tryz.prog.underlying t=some (.slice e)) (h:Rd w t ds):∀ u∈ds,u.oneCell'=true:=by
 obtain ⟨H,enc,fuel,y,h,_⟩:=h
 rcases DataW.trod_slice ht h with ⟨rfl,_⟩|⟨a,len,cap,_,_,_,_,rfl,_⟩ <;> (intro u hu; simp at hu; subst hu; rfl)
theorem ones27 {w:World} {ds:List Value} (h:Rd w 27 ds):∀ u∈ds,u.oneCell'=true:=by
 obtain ⟨hl,hel⟩:=h.array Tryz.underlying27 Tryz.c5
 rw [zc27] at hl
 intro u hu
 obtain ⟨j,hj⟩:=List.getElem?_of_mem hu
 have hlt:j<32:=by have:=(List.getElem?_eq_some_iff.1 hj).1; omega
 obtain ⟨v,hv,hr⟩:=hel j hlt
 rw [hj] at hv
 cases hv
 exact ones_int Tryz.underlying5 hr u (by simp)
theorem ones23 {w:World} {ds:List Value} (h:Rd w 23 ds):∀ u∈ds,u.oneCell'=true:=by
 have hl:=h.len Tryz.underlying23
 rw [zc23] at hl
 intro u hu
 obtain ⟨j,hj⟩:=List.getElem?_of_mem hu
 have hlt:j<2:=by have:=(List.getElem?_eq_some_iff.1 hj).1; omega
 by_cases g0:j<1
 ·exact ones_field (ones_int Tryz.underlying2 (h.fieldAt Tryz.underlying23 0 rfl 2 0 1 rfl rfl zc2)) hj (by omega) (by omega)
 exact ones_field (ones_int Tryz.underlying2 (h.fieldAt Tryz.underlying23 1 rfl 2 1 1 rfl rfl zc2)) hj (by omega) (by omega)
theorem ones25 {w:World} {ds:List Value} (h:Rd w 25 ds):∀ u∈ds,u.oneCell'=true:=by
 have hl:=h.len Tryz.underlying25
 rw [zc25] at hl
 intro u hu
 obtain ⟨j,hj⟩:=List.getElem?_of_mem hu
 have hlt:j<12:=by have:=(List.getElem?_eq_some_iff.1 hj).1; omega
 by_cases g0:j<1
 ·exact ones_field (ones_int Tryz.underlying2 (h.fieldAt Tryz.underlying25 0 rfl 2 0 1 rfl rfl zc2)) hj (by omega) (by omega)
 by_cases g1:j<2
 ·exact ones_field (ones_int Tryz.underlying2 (h.fieldAt Tryz.underlying25 1 rfl 2 1 1 rfl rfl zc2)) hj (by omega) (by omega)
 by_cases g2:j<3
 ·exact ones_field (ones_int Tryz.underlying2 (h.fieldAt Tryz.underlying25 2 rfl 2 2 1 rfl rfl zc2)) hj (by omega) (by omega)
 by_cases g3:j<4
 ·exact ones_field (ones_int Tryz.underlying2 (h.fieldAt Tryz.underlying25 3 rfl 2 3 1 rfl rfl zc2)) hj (by omega) (by omega)
 by_cases g4:j<5
 ·exact ones_field (ones_int Tryz.underlying2 (h.fieldAt Tryz.underlying25 4 rfl 2 4 1 rfl rfl zc2)) hj (by omega) (by omega)
 by_cases g5:j<6
 ·exact ones_field (ones_int Tryz.underlying2 (h.fieldAt Tryz.underlying25 5 rfl 2 5 1 rfl rfl zc2)) hj (by omega) (by omega)
 by_cases g6:j<7
 ·exact ones_field (ones_int Tryz.underlying3 (h.fieldAt Tryz.underlying25 6 rfl 3 6 1 rfl rfl zc3)) hj (by omega) (by omega)
 by_cases g7:j<8
 ·exact ones_field (ones_int Tryz.underlying3 (h.fieldAt Tryz.underlying25 7 rfl 3 7 1 rfl rfl zc3)) hj (by omega) (by omega)
 by_cases g8:j<10
 ·exact ones_field (ones23 (h.fieldAt Tryz.underlying25 8 rfl 23 8 2 rfl rfl zc23)) hj (by omega) (by omega)
 by_cases g9:j<11
 ·exact ones_field (ones_int Tryz.underlying3 (h.fieldAt Tryz.underlying25 9 rfl 3 10 1 rfl rfl zc3)) hj (by omega) (by omega)
 exact ones_field (ones_int Tryz.underlying3 (h.fieldAt Tryz.underlying25 10 rfl 3 11 1 rfl rfl zc3)) hj (by omega) (by omega)
theorem ones32 {w:World} {ds:List Value} (h:Rd w 32 ds):∀ u∈ds,u.oneCell'=true:=by
 have hl:=h.len Tryz.underlying32
 rw [zc32] at hl
 intro u hu
 obtain ⟨j,hj⟩:=List.getElem?_of_mem hu
 have hlt:j<67:=by have:=(List.getElem?_eq_some_iff.1 hj).1; omega
 by_cases g0:j<32
 ·exact ones_field (ones27 (h.fieldAt Tryz.underlying32 0 rfl 27 0 32 rfl rfl zc27)) hj (by omega) (by omega)
 by_cases g1:j<33
 ·exact ones_field (ones_int Tryz.underlying3 (h.fieldAt Tryz.underlying32 1 rfl 3 32 1 rfl rfl zc3)) hj (by omega) (by omega)
 by_cases g2:j<34
 ·exact ones_field (ones_int Tryz.underlying2 (h.fieldAt Tryz.underlying32 2 rfl 2 33 1 rfl rfl zc2)) hj (by omega) (by omega)
 by_cases g3:j<66
 ·exact ones_field (ones27 (h.fieldAt Tryz.underlying32 3 rfl 27 34 32 rfl rfl zc27)) hj (by omega) (by omega)
 exact ones_field (ones_int Tryz.underlying30 (h.fieldAt Tryz.underlying32 4 rfl 30 66 1 rfl rfl zc30)) hj (by omega) (by omega)
theorem ones41 {w:World} {ds:List Value} (h:Rd w 41 ds):∀ u∈ds,u.oneCell'=true:=by
 have hl:=h.len Tryz.underlying41
 rw [zc41] at hl
 intro u hu
 obtain ⟨j,hj⟩:=List.getElem?_of_mem hu
 have hlt:j<33:=by have:=(List.getElem?_eq_some_iff.1 hj).1; omega
 by_cases g0:j<1
 ·exact ones_field (ones_bool Tryz.underlying4 (h.fieldAt Tryz.underlying41 0 rfl 4 0 1 rfl rfl zc4)) hj (by omega) (by omega)
 exact ones_field (ones27 (h.fieldAt Tryz.underlying41 1 rfl 27 1 32 rfl rfl zc27)) hj (by omega) (by omega)
theorem ones48 {w:World} {ds:List Value} (h:Rd w 48 ds):∀ u∈ds,u.oneCell'=true:=by
 have hl:=h.len Tryz.underlying48
 rw [zc48] at hl
 intro u hu
 obtain ⟨j,hj⟩:=List.getElem?_of_mem hu
 have hlt:j<2:=by have:=(List.getElem?_eq_some_iff.1 hj).1; omega
 by_cases g0:j<1
 ·exact ones_field (ones_int Tryz.underlying2 (h.fieldAt Tryz.underlying48 0 rfl 2 0 1 rfl rfl zc2)) hj (by omega) (by omega)
 exact ones_field (ones_int Tryz.underlying30 (h.fieldAt Tryz.underlying48 1 rfl 30 1 1 rfl rfl zc30)) hj (by omega) (by omega)
theorem ones62 {w:World} {ds:List Value} (h:Rd w 62 ds):∀ u∈ds,u.oneCell'=true:=by
 have hl:=h.len Tryz.underlying62
 rw [zc62] at hl
 intro u hu
 obtain ⟨j,hj⟩:=List.getElem?_of_mem hu
 have hlt:j<33:=by have:=(List.getElem?_eq_some_iff.1 hj).1; omega
 by_cases g0:j<32
 ·exact ones_field (ones27 (h.fieldAt Tryz.underlying62 0 rfl 27 0 32 rfl rfl zc27)) hj (by omega) (by omega)
 exact ones_field (ones_int Tryz.underlying3 (h.fieldAt Tryz.underlying62 1 rfl 3 32 1 rfl rfl zc3)) hj (by omega) (by omega)
theorem ones76 {w:World} {ds:List Value} (h:Rd w 76 ds):∀ u∈ds,u.oneCell'=true:=by
 have hl:=h.len Tryz.underlying76
 rw [zc76] at hl
 intro u hu
 obtain ⟨j,hj⟩:=List.getElem?_of_mem hu
 have hlt:j<34:=by have:=(List.getElem?_eq_some_iff.1 hj).1; omega
 by_cases g0:j<32
 ·exact ones_field (ones27 (h.fieldAt Tryz.underlying76 0 rfl 27 0 32 rfl rfl zc27)) hj (by omega) (by omega)
 by_cases g1:j<33
 ·exact ones_field (ones_string Tryz.underlying9 (h.fieldAt Tryz.underlying76 1 rfl 9 32 1 rfl rfl zc9)) hj (by omega) (by omega)
 exact ones_field (ones_int Tryz.underlying2 (h.fieldAt Tryz.underlying76 2 rfl 2 33 1 rfl rfl zc2)) hj (by omega) (by omega)
theorem ones78 {w:World} {ds:List Value} (h:Rd w 78 ds):∀ u∈ds,u.oneCell'=true:=by
 have hl:=h.len Tryz.underlying78
 rw [zc78] at hl
 intro u hu
 obtain ⟨j,hj⟩:=List.getElem?_of_mem hu
 have hlt:j<35:=by have:=(List.getElem?_eq_some_iff.1 hj).1; omega
 by_cases g0:j<32
 ·exact ones_field (ones27 (h.fieldAt Tryz.underlying78 0 rfl 27 0 32 rfl rfl zc27)) hj (by omega) (by omega)
 by_cases g1:j<33
 ·exact ones_field (ones_string Tryz.underlying9 (h.fieldAt Tryz.underlying78 1 rfl 9 32 1 rfl rfl zc9)) hj (by omega) (by omega)
 exact ones_field (ones48 (h.fieldAt Tryz.underlying78 2 rfl 48 33 2 rfl rfl zc48)) hj (by omega) (by omega)
theorem ones212 {w:World} {ds:List Value} (h:Rd w 212 ds):∀ u∈ds,u.oneCell'=true:=by
 have hl:=h.len Tryz.underlying212
 rw [zc212] at hl
 intro u hu
 obtain ⟨j,hj⟩:=List.getElem?_of_mem hu
 have hlt:j<5:=by have:=(List.getElem?_eq_some_iff.1 hj).1; omega
 by_cases g0:j<1
 ·exact ones_field (ones_int Tryz.underlying210 (h.fieldAt Tryz.underlying212 0 rfl 210 0 1 rfl rfl zc210)) hj (by omega) (by omega)
 by_cases g1:j<2
 ·exact ones_field (ones_int Tryz.underlying2 (h.fieldAt Tryz.underlying212 1 rfl 2 1 1 rfl rfl zc2)) hj (by omega) (by omega)
 by_cases g2:j<3
 ·exact ones_field (ones_int Tryz.underlying30 (h.fieldAt Tryz.underlying212 2 rfl 30 2 1 rfl rfl zc30)) hj (by omega) (by omega)
 by_cases g3:j<4
 ·exact ones_field (ones_string Tryz.underlying9 (h.fieldAt Tryz.underlying212 3 rfl 9 3 1 rfl rfl zc9)) hj (by omega) (by omega)
 exact ones_field (ones_int Tryz.underlying3 (h.fieldAt Tryz.underlying212 4 rfl 3 4 1 rfl rfl zc3)) hj (by omega) (by omega)
theorem ones69 {w:World} {ds:List Value} (h:Rd w 69 ds):∀ u∈ds,u.oneCell'=true:=by
 have hl:=h.len Tryz.underlying69
 rw [zc69] at hl
 intro u hu
 obtain ⟨j,hj⟩:=List.getElem?_of_mem hu
 have hlt:j<1:=by have:=(List.getElem?_eq_some_iff.1 hj).1; omega
 exact ones_field (ones_slice Tryz.underlying67 (h.fieldAt Tryz.underlying69 0 rfl 67 0 1 rfl rfl zc67)) hj (by omega) (by omega)
theorem ones65 {w:World} {ds:List Value} (h:Rd w 65 ds):∀ u∈ds,u.oneCell'=true:=by
 have hl:=h.len Tryz.underlying65
 rw [zc65] at hl
 intro u hu
 obtain ⟨j,hj⟩:=List.getElem?_of_mem hu
 have hlt:j<2:=by have:=(List.getElem?_eq_some_iff.1 hj).1; omega
 by_cases g0:j<1
 ·exact ones_field (ones_int Tryz.underlying2 (h.fieldAt Tryz.underlying65 0 rfl 2 0 1 rfl rfl zc2)) hj (by omega) (by omega)
 exact ones_field (ones_slice Tryz.underlying63 (h.fieldAt Tryz.underlying65 1 rfl 63 1 1 rfl rfl zc63)) hj (by omega) (by omega)
theorem ones71 {w:World} {ds:List Value} (h:Rd w 71 ds):∀ u∈ds,u.oneCell'=true:=by
 have hl:=h.len Tryz.underlying71
 rw [zc71] at hl
 intro u hu
 obtain ⟨j,hj⟩:=List.getElem?_of_mem hu
 have hlt:j<69:=by have:=(List.getElem?_eq_some_iff.1 hj).1; omega
 by_cases g0:j<33
 ·exact ones_field (ones41 (h.fieldAt Tryz.underlying71 0 rfl 41 0 33 rfl rfl zc41)) hj (by omega) (by omega)
 by_cases g1:j<35
 ·exact ones_field (ones65 (h.fieldAt Tryz.underlying71 1 rfl 65 33 2 rfl rfl zc65)) hj (by omega) (by omega)
 by_cases g2:j<36
 ·exact ones_field (ones_int Tryz.underlying66 (h.fieldAt Tryz.underlying71 2 rfl 66 35 1 rfl rfl zc66)) hj (by omega) (by omega)
 by_cases g3:j<68
 ·exact ones_field (ones27 (h.fieldAt Tryz.underlying71 3 rfl 27 36 32 rfl rfl zc27)) hj (by omega) (by omega)
 exact ones_field (ones69 (h.fieldAt Tryz.underlying71 4 rfl 69 68 1 rfl rfl zc69)) hj (by omega) (by omega)
theorem ones73 {w:World} {ds:List Value} (h:Rd w 73 ds):∀ u∈ds,u.oneCell'=true:=by
 have hl:=h.len Tryz.underlying73
 rw [zc73] at hl
 intro u hu
 obtain ⟨j,hj⟩:=List.getElem?_of_mem hu
 have hlt:j<102:=by have:=(List.getElem?_eq_some_iff.1 hj).1; omega
 by_cases g0:j<33
 ·exact ones_field (ones62 (h.fieldAt Tryz.underlying73 0 rfl 62 0 33 rfl rfl zc62)) hj (by omega) (by omega)
 exact ones_field (ones71 (h.fieldAt Tryz.underlying73 1 rfl 71 33 69 rfl rfl zc71)) hj (by omega) (by omega)
theorem ones260 {w:World} {ds:List Value} (h:Rd w 260 ds):∀ u∈ds,u.oneCell'=true:=by
 have hl:=h.len Tryz.underlying260
 rw [zc260] at hl
 intro u hu
 obtain ⟨j,hj⟩:=List.getElem?_of_mem hu
 have hlt:j<4:=by have:=(List.getElem?_eq_some_iff.1 hj).1; omega
 by_cases g0:j<1
 ·exact ones_field (ones_int Tryz.underlying258 (h.fieldAt Tryz.underlying260 0 rfl 258 0 1 rfl rfl zc258)) hj (by omega) (by omega)
 by_cases g1:j<2
 ·exact ones_field (ones_int Tryz.underlying2 (h.fieldAt Tryz.underlying260 1 rfl 2 1 1 rfl rfl zc2)) hj (by omega) (by omega)
 by_cases g2:j<3
 ·exact ones_field (ones_int Tryz.underlying30 (h.fieldAt Tryz.underlying260 2 rfl 30 2 1 rfl rfl zc30)) hj (by omega) (by omega)
 exact ones_field (ones69 (h.fieldAt Tryz.underlying260 3 rfl 69 3 1 rfl rfl zc69)) hj (by omega) (by omega)
theorem ones264 {w:World} {ds:List Value} (h:Rd w 264 ds):∀ u∈ds,u.oneCell'=true:=by
 have hl:=h.len Tryz.underlying264
 rw [zc264] at hl
 intro u hu
 obtain ⟨j,hj⟩:=List.getElem?_of_mem hu
 have hlt:j<2:=by have:=(List.getElem?_eq_some_iff.1 hj).1; omega
 by_cases g0:j<1
 ·exact ones_field (ones_int Tryz.underlying3 (h.fieldAt Tryz.underlying264 0 rfl 3 0 1 rfl rfl zc3)) hj (by omega) (by omega)
 exact ones_field (ones_slice Tryz.underlying257 (h.fieldAt Tryz.underlying264 1 rfl 257 1 1 rfl rfl zc257)) hj (by omega) (by omega)
theorem ones269 {w:World} {ds:List Value} (h:Rd w 269 ds):∀ u∈ds,u.oneCell'=true:=by
 have hl:=h.len Tryz.underlying269
 rw [zc269] at hl
 intro u hu
 obtain ⟨j,hj⟩:=List.getElem?_of_mem hu
 have hlt:j<5:=by have:=(List.getElem?_eq_some_iff.1 hj).1; omega
 by_cases g0:j<1
 ·exact ones_field (ones_int Tryz.underlying267 (h.fieldAt Tryz.underlying269 0 rfl 267 0 1 rfl rfl zc267)) hj (by omega) (by omega)
 by_cases g1:j<2
 ·exact ones_field (ones_int Tryz.underlying3 (h.fieldAt Tryz.underlying269 1 rfl 3 1 1 rfl rfl zc3)) hj (by omega) (by omega)
 by_cases g2:j<3
 ·exact ones_field (ones69 (h.fieldAt Tryz.underlying269 2 rfl 69 2 1 rfl rfl zc69)) hj (by omega) (by omega)
 exact ones_field (ones23 (h.fieldAt Tryz.underlying269 3 rfl 23 3 2 rfl rfl zc23)) hj (by omega) (by omega)
theorem ones275 {w:World} {ds:List Value} (h:Rd w 275 ds):∀ u∈ds,u.oneCell'=true:=by
 have hl:=h.len Tryz.underlying275
 rw [zc275] at hl
 intro u hu
 obtain ⟨j,hj⟩:=List.getElem?_of_mem hu
 have hlt:j<1:=by have:=(List.getElem?_eq_some_iff.1 hj).1; omega
 exact ones_field (ones_slice Tryz.underlying248 (h.fieldAt Tryz.underlying275 0 rfl 248 0 1 rfl rfl zc248)) hj (by omega) (by omega)
theorem ones152 {w:World} {ds:List Value} (h:Rd w 152 ds):∀ u∈ds,u.oneCell'=true:=by
 have hl:=h.len Tryz.underlying152
 rw [zc152] at hl
 intro u hu
 obtain ⟨j,hj⟩:=List.getElem?_of_mem hu
 have hlt:j<40:=by have:=(List.getElem?_eq_some_iff.1 hj).1; omega
 by_cases g0:j<1
 ·exact ones_field (ones_slice Tryz.underlying150 (h.fieldAt Tryz.underlying152 0 rfl 150 0 1 rfl rfl zc150)) hj (by omega) (by omega)
 by_cases g1:j<2
 ·exact ones_field (ones_slice Tryz.underlying150 (h.fieldAt Tryz.underlying152 1 rfl 150 1 1 rfl rfl zc150)) hj (by omega) (by omega)
 by_cases g2:j<3
 ·exact ones_field (ones_slice Tryz.underlying37 (h.fieldAt Tryz.underlying152 2 rfl 37 2 1 rfl rfl zc37)) hj (by omega) (by omega)
 by_cases g3:j<4
 ·exact ones_field (ones_slice Tryz.underlying37 (h.fieldAt Tryz.underlying152 3 rfl 37 3 1 rfl rfl zc37)) hj (by omega) (by omega)
 by_cases g4:j<5
 ·exact ones_field (ones_int Tryz.underlying2 (h.fieldAt Tryz.underlying152 4 rfl 2 4 1 rfl rfl zc2)) hj (by omega) (by omega)
 by_cases g5:j<6
 ·exact ones_field (ones_int Tryz.underlying2 (h.fieldAt Tryz.underlying152 5 rfl 2 5 1 rfl rfl zc2)) hj (by omega) (by omega)
 by_cases g6:j<7
 ·exact ones_field (ones_int Tryz.underlying2 (h.fieldAt Tryz.underlying152 6 rfl 2 6 1 rfl rfl zc2)) hj (by omega) (by omega)
 by_cases g7:j<8
 ·exact ones_field (ones_slice Tryz.underlying63 (h.fieldAt Tryz.underlying152 7 rfl 63 7 1 rfl rfl zc63)) hj (by omega) (by omega)
 exact ones_field (ones27 (h.fieldAt Tryz.underlying152 8 rfl 27 8 32 rfl rfl zc27)) hj (by omega) (by omega)
theorem ones158 {w:World} {ds:List Value} (h:Rd w 158 ds):∀ u∈ds,u.oneCell'=true:=by
 have hl:=h.len Tryz.underlying158
 rw [zc158] at hl
 intro u hu
 obtain ⟨j,hj⟩:=List.getElem?_of_mem hu
 have hlt:j<45:=by have:=(List.getElem?_eq_some_iff.1 hj).1; omega
 by_cases g0:j<40
 ·exact ones_field (ones152 (h.fieldAt Tryz.underlying158 0 rfl 152 0 40 rfl rfl zc152)) hj (by omega) (by omega)
 by_cases g1:j<41
 ·exact ones_field (ones_slice Tryz.underlying153 (h.fieldAt Tryz.underlying158 1 rfl 153 40 1 rfl rfl zc153)) hj (by omega) (by omega)
 by_cases g2:j<42
 ·exact ones_field (ones_slice Tryz.underlying154 (h.fieldAt Tryz.underlying158 2 rfl 154 41 1 rfl rfl zc154)) hj (by omega) (by omega)
 by_cases g3:j<43
 ·exact ones_field (ones_slice Tryz.underlying155 (h.fieldAt Tryz.underlying158 3 rfl 155 42 1 rfl rfl zc155)) hj (by omega) (by omega)
 by_cases g4:j<44
 ·exact ones_field (ones_slice Tryz.underlying156 (h.fieldAt Tryz.underlying158 4 rfl 156 43 1 rfl rfl zc156)) hj (by omega) (by omega)
 exact ones_field (ones_bool Tryz.underlying4 (h.fieldAt Tryz.underlying158 5 rfl 4 44 1 rfl rfl zc4)) hj (by omega) (by omega)
theorem ones140 {w:World} {ds:List Value} (h:Rd w 140 ds):∀ u∈ds,u.oneCell'=true:=by
 have hl:=h.len Tryz.underlying140
 rw [zc140] at hl
 intro u hu
 obtain ⟨j,hj⟩:=List.getElem?_of_mem hu
 have hlt:j<68:=by have:=(List.getElem?_eq_some_iff.1 hj).1; omega
 by_cases g0:j<67
 ·exact ones_field (ones32 (h.fieldAt Tryz.underlying140 0 rfl 32 0 67 rfl rfl zc32)) hj (by omega) (by omega)
 exact ones_field (ones_slice Tryz.underlying34 (h.fieldAt Tryz.underlying140 1 rfl 34 67 1 rfl rfl zc34)) hj (by omega) (by omega)
theorem ones143 {w:World} {ds:List Value} (h:Rd w 143 ds):∀ u∈ds,u.oneCell'=true:=by
 have hl:=h.len Tryz.underlying143
 rw [zc143] at hl
 intro u hu
 obtain ⟨j,hj⟩:=List.getElem?_of_mem hu
 have hlt:j<5:=by have:=(List.getElem?_eq_some_iff.1 hj).1; omega
 by_cases g0:j<1
 ·exact ones_field (ones_slice Tryz.underlying28 (h.fieldAt Tryz.underlying143 0 rfl 28 0 1 rfl rfl zc28)) hj (by omega) (by omega)
 by_cases g1:j<2
 ·exact ones_field (ones_slice Tryz.underlying28 (h.fieldAt Tryz.underlying143 1 rfl 28 1 1 rfl rfl zc28)) hj (by omega) (by omega)
 by_cases g2:j<3
 ·exact ones_field (ones_int Tryz.underlying2 (h.fieldAt Tryz.underlying143 2 rfl 2 2 1 rfl rfl zc2)) hj (by omega) (by omega)
 by_cases g3:j<4
 ·exact ones_field (ones_int Tryz.underlying2 (h.fieldAt Tryz.underlying143 3 rfl 2 3 1 rfl rfl zc2)) hj (by omega) (by omega)
 exact ones_field (ones_slice Tryz.underlying33 (h.fieldAt Tryz.underlying143 4 rfl 33 4 1 rfl rfl zc33)) hj (by omega) (by omega)
theorem ones145 {w:World} {ds:List Value} (h:Rd w 145 ds):∀ u∈ds,u.oneCell'=true:=by
 have hl:=h.len Tryz.underlying145
 rw [zc145] at hl
 intro u hu
 obtain ⟨j,hj⟩:=List.getElem?_of_mem hu
 have hlt:j<106:=by have:=(List.getElem?_eq_some_iff.1 hj).1; omega
 by_cases g0:j<32
 ·exact ones_field (ones27 (h.fieldAt Tryz.underlying145 0 rfl 27 0 32 rfl rfl zc27)) hj (by omega) (by omega)
 by_cases g1:j<100
 ·exact ones_field (ones140 (h.fieldAt Tryz.underlying145 1 rfl 140 32 68 rfl rfl zc140)) hj (by omega) (by omega)
 by_cases g2:j<101
 ·exact ones_field (ones_int Tryz.underlying141 (h.fieldAt Tryz.underlying145 2 rfl 141 100 1 rfl rfl zc141)) hj (by omega) (by omega)
 exact ones_field (ones143 (h.fieldAt Tryz.underlying145 3 rfl 143 101 5 rfl rfl zc143)) hj (by omega) (by omega)
theorem ones36 {w:World} {ds:List Value} (h:Rd w 36 ds):∀ u∈ds,u.oneCell'=true:=by
 have hl:=h.len Tryz.underlying36
 rw [zc36] at hl
 intro u hu
 obtain ⟨j,hj⟩:=List.getElem?_of_mem hu
 have hlt:j<182:=by have:=(List.getElem?_eq_some_iff.1 hj).1; omega
 by_cases g0:j<12
 ·exact ones_field (ones25 (h.fieldAt Tryz.underlying36 0 rfl 25 0 12 rfl rfl zc25)) hj (by omega) (by omega)
 by_cases g1:j<44
 ·exact ones_field (ones27 (h.fieldAt Tryz.underlying36 1 rfl 27 12 32 rfl rfl zc27)) hj (by omega) (by omega)
 by_cases g2:j<45
 ·exact ones_field (ones_slice Tryz.underlying28 (h.fieldAt Tryz.underlying36 2 rfl 28 44 1 rfl rfl zc28)) hj (by omega) (by omega)
 by_cases g3:j<46
 ·exact ones_field (ones_slice Tryz.underlying29 (h.fieldAt Tryz.underlying36 3 rfl 29 45 1 rfl rfl zc29)) hj (by omega) (by omega)
 by_cases g4:j<113
 ·exact ones_field (ones32 (h.fieldAt Tryz.underlying36 4 rfl 32 46 67 rfl rfl zc32)) hj (by omega) (by omega)
 by_cases g5:j<145
 ·exact ones_field (ones27 (h.fieldAt Tryz.underlying36 5 rfl 27 113 32 rfl rfl zc27)) hj (by omega) (by omega)
 by_cases g6:j<177
 ·exact ones_field (ones27 (h.fieldAt Tryz.underlying36 6 rfl 27 145 32 rfl rfl zc27)) hj (by omega) (by omega)
 by_cases g7:j<178
 ·exact ones_field (ones_int Tryz.underlying2 (h.fieldAt Tryz.underlying36 7 rfl 2 177 1 rfl rfl zc2)) hj (by omega) (by omega)
 by_cases g8:j<179
 ·exact ones_field (ones_int Tryz.underlying2 (h.fieldAt Tryz.underlying36 8 rfl 2 178 1 rfl rfl zc2)) hj (by omega) (by omega)
 by_cases g9:j<180
 ·exact ones_field (ones_slice Tryz.underlying33 (h.fieldAt Tryz.underlying36 9 rfl 33 179 1 rfl rfl zc33)) hj (by omega) (by omega)
 by_cases g10:j<181
 ·exact ones_field (ones_slice Tryz.underlying34 (h.fieldAt Tryz.underlying36 10 rfl 34 180 1 rfl rfl zc34)) hj (by omega) (by omega)
 exact ones_field (ones_int Tryz.underlying2 (h.fieldAt Tryz.underlying36 11 rfl 2 181 1 rfl rfl zc2)) hj (by omega) (by omega)
/-- A copy's post: what is returned reads the same, in new blocks. -/
def CpS (w0:World) (n:Nat) (t:TypeId) (w:World) (v:Value) (e:Ending) (w':World):Prop:=
 ∃ v',e=.returned v'/\v'.oneCell'=true/\EqX w0.heap.size w0 (fun q=>w.heap.size<=q) w' n t [v] [v']/\Mod N0 w w'
def CpR (w0:World) (n:Nat) (t:TypeId) (w:World) (cs:List Value) (e:Ending) (w':World):Prop:=
 ∃ cs':List Value,e=.returned (.agg cs'.toArray)/\(∀ u∈cs',u.oneCell'=true)/\EqX w0.heap.size w0 (fun q=>w.heap.size<=q) w' n t cs cs'/\Mod N0 w w'
theorem EqX.keep {N:Nat} {w0:World} {Q Q' S:Nat->Prop} {w w':World} {n m:Nat} {t:TypeId} {cs cs':List Value} (h:EqX N w0 Q w n t cs cs') (hm:Mod S w w') (hS:∀ q,S q->N<=q/\¬ Q q) (hQ:∀ q,q<w.heap.size->Q q->Q' q) (hnm:n<=m):EqX N w0 Q' w' m t cs cs':=
 (Eqv.tr hm hS hQ h).le hnm
theorem flat_get' {s:Nat}:∀ (rows:List (List Value)),(∀ ds∈rows,ds.length=s)->∀ (k:Nat) (ds:List Value),rows[k]?=some ds->∀ j u,ds[j]?=some u->rows.flatten[k * s+j]?=some u
|[],_,k,ds,h=>by simp at h
|r :: rows,hl,0,ds,h=>by
  intro j u hu
  simp at h; subst h
  rw [List.flatten_cons,List.getElem?_append_left (by have:=(List.getElem?_eq_some_iff.1 hu).1; rw [hl r (List.mem_cons_self ..)] at this ⊢; omega),Nat.zero_mul,Nat.zero_add]
  exact hu
|r :: rows,hl,k+1,ds,h=>by
  intro j u hu
  have ih:=flat_get' rows (fun d hd=>hl d (List.mem_cons_of_mem _ hd)) k ds (by simpa using h) j u hu
  have hr:=hl r (List.mem_cons_self ..)
  rw [List.flatten_cons,List.getElem?_append_right (by rw [hr,Nat.succ_mul]; omega),hr,show (k+1) * s+j - s=k * s+j by rw [Nat.succ_mul]; omega]
  exact ih
theorem owns_shape' {w:World} {B s n:Nat} {e:TypeId} {v:Value} {xs:List Value} (h:w.ownsRow B e s v n xs):∃ a c,v=.slice a n c:=by
 obtain ⟨_,⟨rfl,rfl⟩|⟨g,cap,cur,rfl,_⟩⟩:=h
 ·exact ⟨_,_,rfl⟩
 ·exact ⟨_,_,rfl⟩
theorem list_of {α:Type} {P:Nat->α->Prop}:∀ n,(∀ i,i<n->∃ x,P i x)->∃ l:List α,l.length=n/\∀ i x,l[i]?=some x->P i x
|0,_=>⟨[],rfl,fun i x h=>by simp at h⟩
|n+1,h=>by
  obtain ⟨l,hl,hp⟩:=list_of n (fun i hi=>h i (by omega))
  obtain ⟨x,hx⟩:=h n (by omega)
  refine ⟨l ++ [x],by simp [hl],fun i y hy=>?_⟩
  rw [List.getElem?_append] at hy
  split at hy
  ·exact hp i y hy
  ·rw [List.getElem?_singleton] at hy
   split at hy
   ·simp at hy
    subst hy
    rename_i h1 h2
    have:i=n:=by omega
    subst this
    exact hx
   ·simp at hy
theorem append_leaf {w0 w:World} {t e:TypeId} {s bytes:Nat} {i:TypeInfo} {z v:Value} (ty:TypeId) (hdt:deepT t=true) (hde:deepT e=false) (ht:Tryz.prog.underlying t=some (.slice e)) (hs:Tryz.prog.cellsOf e=s) (h0:0<s) (hi:Tryz.prog.info? e=some i) (hz:i.zero=some z)
  (hsz:i.size=s) (hby:i.bytes=bytes) (hbo:Tryz.prog.bytesOf e=bytes) (hzs:z.cells.size=s) (hb0:0<bytes) (ones:∀ ds,Rd w0 e ds->∀ u∈ds,u.oneCell'=true) (hr:Rd w0 t [v]) (hm:Mod N0 w0 w) :
  ∃ v' w',(Builtin.append_ #[t,t] ty #[.slice none 0 0,v]).run Tryz.prog w=.ok v' w'/\v'.oneCell'=true/\EqX w0.heap.size w0 (fun q=>w.heap.size<=q) w' 2 t [v] [v']/\Mod N0 w w':=by
 obtain ⟨a,len,cap,rfl,hlb,hn,hel⟩:=hr.slice ht hs h0
 rw [hbo] at hlb
 cases a with
|none=>
  obtain ⟨rfl,rfl⟩:=hn rfl
  refine ⟨.slice none 0 0,w,run_append_owned_none (P:=Tryz.prog) (w:=w) 0 t ty e i s ht hi (.slice none 0 0) 0 [] (World.ownsRow_nil w 0 e s),rfl,?_,Mod.refl _ w⟩
  exact Eqv.sliceI hdt ht hs h0 (fun _=>rfl) (fun i hi=>by omega)
|some ad=>
  obtain ⟨rows,hrl,hrp⟩:=list_of (P:=fun i (ds:List Value)=>∃ L off,ad=⟨L,off,none⟩/\L<w0.heap.size/\ds.length=s/\Rd w0 e ds/\∀ j u,ds[j]?=some u->w0.cell? ⟨L,off+i * s+j,none⟩=some u) len (fun i hi=>by
   obtain ⟨L,off,ds,ha,hL,hl,hrd,hc⟩:=hel i hi
   cases ha
   exact ⟨ds,L,off,rfl,hL,hl,hrd,hc⟩)
  have hlen:∀ ds∈rows,ds.length=s:=fun ds hd=>by
   obtain ⟨k,hk⟩:=List.getElem?_of_mem hd
   obtain ⟨_,_,_,_,h,_⟩:=hrp k ds hk
   exact h
  have hfl:rows.flatten.length=rows.length * s:=by
   clear hrp hrl
   induction rows with
  |nil=>simp
  |cons r rows ih=>
    rw [List.flatten_cons,List.length_append,ih (fun ds hd=>hlen ds (List.mem_cons_of_mem _ hd)),hlen r (List.mem_cons_self ..),List.length_cons,Nat.succ_mul]
    omega
  have hget:∀ (rows:List (List Value)),(∀ ds∈rows,ds.length=s)->∀ (k:Nat) (ds:List Value),rows[k]?=some ds->∀ j u,ds[j]?=some u->rows.flatten[k * s+j]?=some u:=fun rows hl k ds hk j u hu=>by
   have:=flat_get' rows hl k ds hk j u hu
   exact this
  have hcs:∀ j u,rows.flatten[j]?=some u->w.cell? (ad.add j)=some u:=by
   intro j u hj
   have hlt:j<rows.length * s:=by have:=(List.getElem?_eq_some_iff.1 hj).1; rwa [hfl] at this
   have hq:j / s<rows.length:=Nat.div_lt_of_lt_mul (by rw [Nat.mul_comm]; exact hlt)
   have hk:rows[j / s]?=some rows[j / s]:=List.getElem?_eq_getElem hq
   obtain ⟨L,off,rfl,hL,hl,_,hc⟩:=hrp _ _ hk
   have hmod:j % s<s:=Nat.mod_lt _ h0
   have hv:rows[j / s][j % s]?=some (rows[j / s][j % s]'(by omega)):=List.getElem?_eq_getElem (by omega)
   have g1:=hget rows hlen _ _ hk _ _ hv
   have hje:j / s * s+j % s=j:=by have:=Nat.div_add_mod j s; rw [Nat.mul_comm] at this; exact this
   rw [hje,hj] at g1
   cases g1
   have g2:=hc _ _ hv
   rw [add0]
   rw [show off+j / s * s+j % s=off+j by omega] at g2
   exact (hm.cell (p:=⟨L,_,none⟩) hL (fun q=>q)).trans g2
  have hone:∀ u∈rows.flatten,u.oneCell'=true:=by
   intro u hu
   obtain ⟨ds,hd,hu2⟩:=List.mem_flatten.1 hu
   obtain ⟨k,hk⟩:=List.getElem?_of_mem hd
   obtain ⟨_,_,_,_,_,hrd,_⟩:=hrp k ds hk
   exact ones ds hrd u hu2
  have hb2:len<=140737488351232:=len_of_bytes hlb hb0
  obtain ⟨v',w',hrun,h1,h2,_,h3⟩:=run_append_at (P:=Tryz.prog) w t ty e i z s bytes ht hi hz hsz hby hzs h0 (.slice none 0 0) 0 [] (World.ownsRow_nil w 0 e s) ad len cap rows.flatten (by rw [hfl,hrl]) hcs hone (by simp only [maxLen]; omega) (by rw [Nat.zero_add]; simp only [reachBytes] at hlb; omega)
  have hmw:Mod N0 w w':=(Mod.refl N0 w).grown h2 (fun q hq=>by cases hq)
  rw [Nat.zero_add,List.nil_append] at h1
  refine ⟨v',w',hrun,?_,?_,hmw⟩
  ·obtain ⟨a',c',rfl⟩:=owns_shape' h1
   rfl
  ·obtain ⟨_,⟨rfl,h00⟩|⟨g,cap',cur,rfl,_,hg,hc',_,hcs',htk⟩⟩:=id h1
   ·subst h00
    exact Eqv.sliceI hdt ht hs h0 (fun _=>rfl) (fun i hi=>by omega)
   ·refine Eqv.sliceI hdt ht hs h0 (fun e=>by cases e) (fun k hk=>?_)
    obtain ⟨ds,hds⟩:∃ ds,rows[k]?=some ds:=⟨_,List.getElem?_eq_getElem (by omega)⟩
    obtain ⟨L,off,rfl,hL,hl,hrd,hc⟩:=hrp k ds hds
    have hgn:w.heap.size<=g:=by
     rcases h3 g rfl with q|q
     ·cases q
     ·exact q
    refine ⟨L,off,ds,g,0,ds,rfl,rfl,hrd,hL,Nat.lt_of_lt_of_le hL (hm.tr hmw).size,ltB hg,hgn,hl,hl,fun j u hu=>((hm.tr hmw).cell (p:=⟨L,_,none⟩) hL (fun q=>q)).trans (hc j u hu),fun j u hu=>?_,Eqv.flatI 0 hde⟩
    have hj:j<s:=by have:=(List.getElem?_eq_some_iff.1 hu).1; omega
    have g1:=hget rows hlen k ds hds j u hu
    have hks:k * s+j<len * s:=by
     have:(k+1) * s<=len * s:=Nat.mul_le_mul_right s hk
     rw [Nat.succ_mul] at this
     omega
    rw [← htk,List.getElem?_take,if_pos hks] at g1
    rw [Nat.zero_add,cellB hg,← Array.getElem?_toList]
    exact g1
end Go.Proofs.YtckcamlicgdklaaGreat
namespace Go.Proofs.YtckcamlicgdklaaGreat
open Go.RowKit Go.Mo
theorem zi212:∃ z:Array Value,(∀ w,(zeroValue 212).run Tryz.prog w=.ok (.agg z) w)/\(Tryz.prog.info? 212).map (fun i=>(i.zero,i.size,i.bytes))=some (some (.agg z),5,48)/\z.size=5:=⟨_,Tryz.zeroValue212,by kernel_rfl,by kernel_rfl⟩
theorem zbo212:Tryz.prog.bytesOf 212=48:=by kernel_rfl
theorem zi76:∃ z:Array Value,(∀ w,(zeroValue 76).run Tryz.prog w=.ok (.agg z) w)/\(Tryz.prog.info? 76).map (fun i=>(i.zero,i.size,i.bytes))=some (some (.agg z),34,56)/\z.size=34:=⟨_,Tryz.zeroValue76,by kernel_rfl,by kernel_rfl⟩
theorem zbo76:Tryz.prog.bytesOf 76=56:=by kernel_rfl
theorem zi62:∃ z:Array Value,(∀ w,(zeroValue 62).run Tryz.prog w=.ok (.agg z) w)/\(Tryz.prog.info? 62).map (fun i=>(i.zero,i.size,i.bytes))=some (some (.agg z),33,40)/\z.size=33:=⟨_,Tryz.zeroValue62,by kernel_rfl,by kernel_rfl⟩
theorem zbo62:Tryz.prog.bytesOf 62=40:=by kernel_rfl
theorem zi27:∃ z:Array Value,(∀ w,(zeroValue 27).run Tryz.prog w=.ok (.agg z) w)/\(Tryz.prog.info? 27).map (fun i=>(i.zero,i.size,i.bytes))=some (some (.agg z),32,32)/\z.size=32:=⟨_,Tryz.zeroValue27,by kernel_rfl,by kernel_rfl⟩
theorem zbo27:Tryz.prog.bytesOf 27=32:=by kernel_rfl
theorem zi78:∃ z:Array Value,(∀ w,(zeroValue 78).run Tryz.prog w=.ok (.agg z) w)/\(Tryz.prog.info? 78).map (fun i=>(i.zero,i.size,i.bytes))=some (some (.agg z),35,64)/\z.size=35:=⟨_,Tryz.zeroValue78,by kernel_rfl,by kernel_rfl⟩
theorem zbo78:Tryz.prog.bytesOf 78=64:=by kernel_rfl
theorem zi69:∃ z:Array Value,(∀ w,(zeroValue 69).run Tryz.prog w=.ok (.agg z) w)/\(Tryz.prog.info? 69).map (fun i=>(i.zero,i.size,i.bytes))=some (some (.agg z),1,24)/\z.size=1:=⟨_,Tryz.zeroValue69,by kernel_rfl,by kernel_rfl⟩
theorem zbo69:Tryz.prog.bytesOf 69=24:=by kernel_rfl
theorem zi71:∃ z:Array Value,(∀ w,(zeroValue 71).run Tryz.prog w=.ok (.agg z) w)/\(Tryz.prog.info? 71).map (fun i=>(i.zero,i.size,i.bytes))=some (some (.agg z),69,136)/\z.size=69:=⟨_,Tryz.zeroValue71,by kernel_rfl,by kernel_rfl⟩
theorem zbo71:Tryz.prog.bytesOf 71=136:=by kernel_rfl
theorem zi73:∃ z:Array Value,(∀ w,(zeroValue 73).run Tryz.prog w=.ok (.agg z) w)/\(Tryz.prog.info? 73).map (fun i=>(i.zero,i.size,i.bytes))=some (some (.agg z),102,176)/\z.size=102:=⟨_,Tryz.zeroValue73,by kernel_rfl,by kernel_rfl⟩
theorem zbo73:Tryz.prog.bytesOf 73=176:=by kernel_rfl
theorem zi260:∃ z:Array Value,(∀ w,(zeroValue 260).run Tryz.prog w=.ok (.agg z) w)/\(Tryz.prog.info? 260).map (fun i=>(i.zero,i.size,i.bytes))=some (some (.agg z),4,48)/\z.size=4:=⟨_,Tryz.zeroValue260,by kernel_rfl,by kernel_rfl⟩
theorem zbo260:Tryz.prog.bytesOf 260=48:=by kernel_rfl
theorem zi264:∃ z:Array Value,(∀ w,(zeroValue 264).run Tryz.prog w=.ok (.agg z) w)/\(Tryz.prog.info? 264).map (fun i=>(i.zero,i.size,i.bytes))=some (some (.agg z),2,32)/\z.size=2:=⟨_,Tryz.zeroValue264,by kernel_rfl,by kernel_rfl⟩
theorem zbo264:Tryz.prog.bytesOf 264=32:=by kernel_rfl
theorem zi269:∃ z:Array Value,(∀ w,(zeroValue 269).run Tryz.prog w=.ok (.agg z) w)/\(Tryz.prog.info? 269).map (fun i=>(i.zero,i.size,i.bytes))=some (some (.agg z),5,56)/\z.size=5:=⟨_,Tryz.zeroValue269,by kernel_rfl,by kernel_rfl⟩
theorem zbo269:Tryz.prog.bytesOf 269=56:=by kernel_rfl
theorem zi275:∃ z:Array Value,(∀ w,(zeroValue 275).run Tryz.prog w=.ok (.agg z) w)/\(Tryz.prog.info? 275).map (fun i=>(i.zero,i.size,i.bytes))=some (some (.agg z),1,24)/\z.size=1:=⟨_,Tryz.zeroValue275,by kernel_rfl,by kernel_rfl⟩
theorem zbo275:Tryz.prog.bytesOf 275=24:=by kernel_rfl
theorem zi152:∃ z:Array Value,(∀ w,(zeroValue 152).run Tryz.prog w=.ok (.agg z) w)/\(Tryz.prog.info? 152).map (fun i=>(i.zero,i.size,i.bytes))=some (some (.agg z),40,176)/\z.size=40:=⟨_,Tryz.zeroValue152,by kernel_rfl,by kernel_rfl⟩
theorem zi158:∃ z:Array Value,(∀ w,(zeroValue 158).run Tryz.prog w=.ok (.agg z) w)/\(Tryz.prog.info? 158).map (fun i=>(i.zero,i.size,i.bytes))=some (some (.agg z),45,280)/\z.size=45:=⟨_,Tryz.zeroValue158,by kernel_rfl,by kernel_rfl⟩
theorem zbo158:Tryz.prog.bytesOf 158=280:=by kernel_rfl
theorem zi140:∃ z:Array Value,(∀ w,(zeroValue 140).run Tryz.prog w=.ok (.agg z) w)/\(Tryz.prog.info? 140).map (fun i=>(i.zero,i.size,i.bytes))=some (some (.agg z),68,112)/\z.size=68:=⟨_,Tryz.zeroValue140,by kernel_rfl,by kernel_rfl⟩
theorem zi143:∃ z:Array Value,(∀ w,(zeroValue 143).run Tryz.prog w=.ok (.agg z) w)/\(Tryz.prog.info? 143).map (fun i=>(i.zero,i.size,i.bytes))=some (some (.agg z),5,88)/\z.size=5:=⟨_,Tryz.zeroValue143,by kernel_rfl,by kernel_rfl⟩
theorem zi145:∃ z:Array Value,(∀ w,(zeroValue 145).run Tryz.prog w=.ok (.agg z) w)/\(Tryz.prog.info? 145).map (fun i=>(i.zero,i.size,i.bytes))=some (some (.agg z),106,240)/\z.size=106:=⟨_,Tryz.zeroValue145,by kernel_rfl,by kernel_rfl⟩
theorem zbo145:Tryz.prog.bytesOf 145=240:=by kernel_rfl
theorem zi65:∃ z:Array Value,(∀ w,(zeroValue 65).run Tryz.prog w=.ok (.agg z) w)/\(Tryz.prog.info? 65).map (fun i=>(i.zero,i.size,i.bytes))=some (some (.agg z),2,32)/\z.size=2:=⟨_,Tryz.zeroValue65,by kernel_rfl,by kernel_rfl⟩
theorem exec_appendL (act:Act) (o:Oper) {w w':World} {s x:Operand} {t:TypeId} (ho:o.op=.call {callee:=.builtin .append,args:=#[s,x],argTypes:=#[t,t]}) {v rv v':Value} (hs:act.eval s=v) (hx:act.eval x=rv)
  (hrun:(Builtin.append_ #[t,t] o.type #[v,rv]).run Tryz.prog w=.ok v' w'):(execOp act.eval o).run Tryz.prog w=.ok (.value v') w':=by
 unfold execOp
 simp only [ho,resolve,invoke,builtin,Sem.run_bind,Sem.run_pure,Result.andThen_ok,List.map_toArray,List.map_cons,List.map_nil,hs,hx,hrun]
set_option maxRecDepth 100000 in
set_option maxHeartbeats 1000000 in
theorem copyNodes {w0:World} (v:Value) (hr:Rd w0 67 [v]) (w:World) (hm:Mod N0 w0 w):Calls Tryz.prog 112 #[v] w fun e w'=>CpS w0 2 67 w v e w':=by
 obtain ⟨z,_,hinf,hzs⟩:=zi212
 obtain ⟨i,hi,hz0,hz1,hz2⟩:=info_parts hinf
 obtain ⟨v',w',hrun,h1,h2,h3⟩:=append_leaf 67 rfl rfl Tryz.underlying67 zc212 (by omega) hi hz0 hz1 hz2 zbo212 (by simpa [Value.cells] using hzs) (by omega) (fun ds hd=>ones212 hd) hr hm
 obtain ⟨a,len,cap,rfl,_⟩:=id (hr.slice Tryz.underlying67 zc212 (by omega))
 have HRUN:=hh hrun
 have HP:=hh (And.intro h1 (And.intro h2 h3))
 clear hrun h1 h2 h3 hr hm hi hz0 hz1 hz2 hinf hzs
 go_enter Tryz.func112,Tryz.ntmps112
 go_upto_region 2 with fail
 refine wp_region_lit ?_
 refine ex (v:=.slice none 0 0) ?_
 refine ex (v:=.slice a len cap) ?_
 refine ww (exec_appendL (s:=.tmp 4) (x:=.tmp 5) (t:=67) (v:=.slice none 0 0) (rv:=.slice a len cap) _ _ rfl rfl rfl HRUN.out) ?_
 go_wp2_with fail
 go_ret
 exact ⟨v',rfl,HP.out.1,HP.out.2.1,HP.out.2.2⟩
set_option maxRecDepth 100000 in
set_option maxHeartbeats 1000000 in
theorem copyAssets {w0:World} (v:Value) (hr:Rd w0 63 [v]) (w:World) (hm:Mod N0 w0 w):Calls Tryz.prog 111 #[v] w fun e w'=>CpS w0 2 63 w v e w':=by
 obtain ⟨z,_,hinf,hzs⟩:=zi76
 obtain ⟨i,hi,hz0,hz1,hz2⟩:=info_parts hinf
 obtain ⟨v',w',hrun,h1,h2,h3⟩:=append_leaf 63 rfl rfl Tryz.underlying63 zc76 (by omega) hi hz0 hz1 hz2 zbo76 (by simpa [Value.cells] using hzs) (by omega) (fun ds hd=>ones76 hd) hr hm
 obtain ⟨a,len,cap,rfl,_⟩:=id (hr.slice Tryz.underlying63 zc76 (by omega))
 have HRUN:=hh hrun
 have HP:=hh (And.intro h1 (And.intro h2 h3))
 clear hrun h1 h2 h3 hr hm hi hz0 hz1 hz2 hinf hzs
 go_enter Tryz.func111,Tryz.ntmps111
 go_upto_region 2 with fail
 refine wp_region_lit ?_
 refine ex (v:=.slice none 0 0) ?_
 refine ex (v:=.slice a len cap) ?_
 refine ww (exec_appendL (s:=.tmp 4) (x:=.tmp 5) (t:=63) (v:=.slice none 0 0) (rv:=.slice a len cap) _ _ rfl rfl rfl HRUN.out) ?_
 go_wp2_with fail
 go_ret
 exact ⟨v',rfl,HP.out.1,HP.out.2.1,HP.out.2.2⟩
set_option maxRecDepth 100000 in
set_option maxHeartbeats 1000000 in
theorem copyRefs {w0:World} (v:Value) (hr:Rd w0 150 [v]) (w:World) (hm:Mod N0 w0 w):Calls Tryz.prog 162 #[v] w fun e w'=>CpS w0 2 150 w v e w':=by
 obtain ⟨z,_,hinf,hzs⟩:=zi62
 obtain ⟨i,hi,hz0,hz1,hz2⟩:=info_parts hinf
 obtain ⟨v',w',hrun,h1,h2,h3⟩:=append_leaf 150 rfl rfl Tryz.underlying150 zc62 (by omega) hi hz0 hz1 hz2 zbo62 (by simpa [Value.cells] using hzs) (by omega) (fun ds hd=>ones62 hd) hr hm
 obtain ⟨a,len,cap,rfl,_⟩:=id (hr.slice Tryz.underlying150 zc62 (by omega))
 have HRUN:=hh hrun
 have HP:=hh (And.intro h1 (And.intro h2 h3))
 clear hrun h1 h2 h3 hr hm hi hz0 hz1 hz2 hinf hzs
 go_enter Tryz.func162,Tryz.ntmps162
 go_upto_region 2 with fail
 refine wp_region_lit ?_
 refine ex (v:=.slice none 0 0) ?_
 refine ex (v:=.slice a len cap) ?_
 refine ww (exec_appendL (s:=.tmp 4) (x:=.tmp 5) (t:=150) (v:=.slice none 0 0) (rv:=.slice a len cap) _ _ rfl rfl rfl HRUN.out) ?_
 go_wp2_with fail
 go_ret
 exact ⟨v',rfl,HP.out.1,HP.out.2.1,HP.out.2.2⟩
set_option maxRecDepth 100000 in
set_option maxHeartbeats 1000000 in
theorem copyHashes {w0:World} (v:Value) (hr:Rd w0 248 [v]) (w:World) (hm:Mod N0 w0 w):Calls Tryz.prog 177 #[v] w fun e w'=>CpS w0 2 248 w v e w':=by
 obtain ⟨z,_,hinf,hzs⟩:=zi27
 obtain ⟨i,hi,hz0,hz1,hz2⟩:=info_parts hinf
 obtain ⟨v',w',hrun,h1,h2,h3⟩:=append_leaf 248 rfl rfl Tryz.underlying248 zc27 (by omega) hi hz0 hz1 hz2 zbo27 (by simpa [Value.cells] using hzs) (by omega) (fun ds hd=>ones27 hd) hr hm
 obtain ⟨a,len,cap,rfl,_⟩:=id (hr.slice Tryz.underlying248 zc27 (by omega))
 have HRUN:=hh hrun
 have HP:=hh (And.intro h1 (And.intro h2 h3))
 clear hrun h1 h2 h3 hr hm hi hz0 hz1 hz2 hinf hzs
 go_enter Tryz.func177,Tryz.ntmps177
 go_upto_region 2 with fail
 refine wp_region_lit ?_
 refine ex (v:=.slice none 0 0) ?_
 refine ex (v:=.slice a len cap) ?_
 refine ww (exec_appendL (s:=.tmp 4) (x:=.tmp 5) (t:=248) (v:=.slice none 0 0) (rv:=.slice a len cap) _ _ rfl rfl rfl HRUN.out) ?_
 go_wp2_with fail
 go_ret
 exact ⟨v',rfl,HP.out.1,HP.out.2.1,HP.out.2.2⟩
set_option maxRecDepth 100000 in
set_option maxHeartbeats 1000000 in
theorem copyTotals {w0:World} (v:Value) (hr:Rd w0 33 [v]) (w:World) (hm:Mod N0 w0 w):Calls Tryz.prog 27 #[v] w fun e w'=>CpS w0 2 33 w v e w':=by
 obtain ⟨z,_,hinf,hzs⟩:=zi78
 obtain ⟨i,hi,hz0,hz1,hz2⟩:=info_parts hinf
 obtain ⟨v',w',hrun,h1,h2,h3⟩:=append_leaf 33 rfl rfl Tryz.underlying33 zc78 (by omega) hi hz0 hz1 hz2 zbo78 (by simpa [Value.cells] using hzs) (by omega) (fun ds hd=>ones78 hd) hr hm
 obtain ⟨a,len,cap,rfl,_⟩:=id (hr.slice Tryz.underlying33 zc78 (by omega))
 have HRUN:=hh hrun
 have HP:=hh (And.intro h1 (And.intro h2 h3))
 clear hrun h1 h2 h3 hr hm hi hz0 hz1 hz2 hinf hzs
 go_enter Tryz.func27,Tryz.ntmps27
 go_upto_region 2 with fail
 refine wp_region_lit ?_
 refine ex (v:=.slice none 0 0) ?_
 refine ex (v:=.slice a len cap) ?_
 refine ww (exec_appendL (s:=.tmp 4) (x:=.tmp 5) (t:=33) (v:=.slice none 0 0) (rv:=.slice a len cap) _ _ rfl rfl rfl HRUN.out) ?_
 go_wp2_with fail
 go_ret
 exact ⟨v',rfl,HP.out.1,HP.out.2.1,HP.out.2.2⟩
end Go.Proofs.YtckcamlicgdklaaGreat
