/- The other flat functions, of no lists: true at once. -/
import Derived.Test.YtckcamlicgdklaaGreatN44
import Derived.Deep.Cut
import Derived.Deep.CutBlock
import Derived.Deep.CutRange
namespace Go.Proofs.YtckcamlicgdklaaGreat
open Go.RowKit Go.Mo Go.Sort
/-- makeSlice of no rows. -/
theorem make0 {T E:TypeId} (ht:Tryz.prog.underlying T=some (.slice E)) (hz:(Tryz.prog.info? E).map (fun i=>(i.zero,i.size,i.bytes))=some (some (.slice none 0 0),1,24)) (w:World) :
  ∃ w',(Instr.makeSlice T (.int .i64 0) (.int .i64 0)).run Tryz.prog w=.ok (.slice (some ⟨w.heap.size,0,none⟩) 0 0) w'/\Mod N0 w w':=by
 obtain ⟨ie,hi,hz0,hz1,hz2⟩:=info_parts hz
 obtain ⟨w',hr,_,hg⟩:=run_makeSlice_full (P:=Tryz.prog) w 0 T E ie (.slice none 0 0) 1 ht hi hz0 hz1 .i64 .i64 0 (by omega) (by rw [hz2]; omega) (by simp only [maxLen]; omega) (Nat.zero_le _)
 exact ⟨w',hr,Mod.ofGrown hg⟩
set_option maxRecDepth 100000 in
theorem flat71 (w:World):Calls Tryz.prog 71 #[.slice none 0 0] w fun e w'=>e=.returned (.bool true)/\Mod N0 w w':=by
 go_enter Tryz.func71,Tryz.ntmps71
 go_wp2_with fail
 go_loopw [3] (fun i wx=>i=.int .i64 0/\Mod N0 w wx) (fun _ _=>0)
 case atStart=>exact ⟨rfl,Mod.refl _ w⟩
 case round=>
  obtain ⟨rfl,hm⟩:=hrel
  go_wp2_with fail
  obtain ⟨w2,hmk,hm2⟩:=make0 Tryz.underlying105 (by kernel_rfl) wr
  rw [hmk]
  have hm3:=hm.tr hm2
  generalize wr.heap.size=G
  clear hmk hm2 hm
  go_wp2_with fail
  go_loopw [6] (fun i wx=>i=.int .i64 0/\Mod N0 w wx) (fun _ _=>0)
  case atStart=>exact ⟨rfl,hm3⟩
  case round=>
   obtain ⟨rfl,hm⟩:=hrel
   clear hm3
   go_wp2_with fail
   go_loopw [9] (fun i wx=>i=.int .i64 0/\Mod N0 w wx) (fun _ _=>0)
   case atStart=>exact ⟨rfl,hm⟩
   case round=>
    obtain ⟨rfl,hm⟩:=hrel
    go_wp2_with fail
    go_loopw [11] (fun i wx=>i=.int .i64 0/\Mod N0 w wx) (fun _ _=>0)
    case atStart=>exact ⟨rfl,hm⟩
    case round=>
     obtain ⟨rfl,hm⟩:=hrel
     go_wp2_with fail
     go_loopw [14] (fun i wx=>i=.int .i64 0/\Mod N0 w wx) (fun _ _=>0)
     case atStart=>exact ⟨rfl,hm⟩
     case round=>
      obtain ⟨rfl,hm⟩:=hrel
      go_wp2_with fail
      go_ret
      exact ⟨rfl,hm⟩
set_option maxRecDepth 100000 in
theorem flat72 (w:World):Calls Tryz.prog 72 #[.slice none 0 0] w fun e w'=>e=.returned (.bool true)/\Mod N0 w w':=by
 go_enter Tryz.func72,Tryz.ntmps72
 go_wp2_with fail
 go_loopw [3] (fun i wx=>i=.int .i64 0/\Mod N0 w wx) (fun _ _=>0)
 case atStart=>exact ⟨rfl,Mod.refl _ w⟩
 case round=>
  obtain ⟨rfl,hm⟩:=hrel
  go_wp2_with fail
  obtain ⟨w2,hmk,hm2⟩:=make0 Tryz.underlying106 (by kernel_rfl) wr
  rw [hmk]
  have hm3:=hm.tr hm2
  generalize wr.heap.size=G
  clear hmk hm2 hm
  go_wp2_with fail
  go_loopw [6] (fun i wx=>i=.int .i64 0/\Mod N0 w wx) (fun _ _=>0)
  case atStart=>exact ⟨rfl,hm3⟩
  case round=>
   obtain ⟨rfl,hm⟩:=hrel
   clear hm3
   go_wp2_with fail
   go_loopw [9] (fun i wx=>i=.int .i64 0/\Mod N0 w wx) (fun _ _=>0)
   case atStart=>exact ⟨rfl,hm⟩
   case round=>
    obtain ⟨rfl,hm⟩:=hrel
    go_wp2_with fail
    go_loopw [11] (fun i wx=>i=.int .i64 0/\Mod N0 w wx) (fun _ _=>0)
    case atStart=>exact ⟨rfl,hm⟩
    case round=>
     obtain ⟨rfl,hm⟩:=hrel
     go_wp2_with fail
     go_loopw [14] (fun i wx=>i=.int .i64 0/\Mod N0 w wx) (fun _ _=>0)
     case atStart=>exact ⟨rfl,hm⟩
     case round=>
      obtain ⟨rfl,hm⟩:=hrel
      go_wp2_with fail
      go_ret
      exact ⟨rfl,hm⟩
set_option maxRecDepth 100000 in
theorem flat73 (w:World):Calls Tryz.prog 73 #[.slice none 0 0] w fun e w'=>e=.returned (.bool true)/\Mod N0 w w':=by
 go_enter Tryz.func73,Tryz.ntmps73
 go_wp2_with fail
 go_loopw [3] (fun i wx=>i=.int .i64 0/\Mod N0 w wx) (fun _ _=>0)
 case atStart=>exact ⟨rfl,Mod.refl _ w⟩
 case round=>
  obtain ⟨rfl,hm⟩:=hrel
  go_wp2_with fail
  obtain ⟨w2,hmk,hm2⟩:=make0 Tryz.underlying107 (by kernel_rfl) wr
  rw [hmk]
  have hm3:=hm.tr hm2
  generalize wr.heap.size=G
  clear hmk hm2 hm
  go_wp2_with fail
  go_loopw [6] (fun i wx=>i=.int .i64 0/\Mod N0 w wx) (fun _ _=>0)
  case atStart=>exact ⟨rfl,hm3⟩
  case round=>
   obtain ⟨rfl,hm⟩:=hrel
   clear hm3
   go_wp2_with fail
   go_loopw [9] (fun i wx=>i=.int .i64 0/\Mod N0 w wx) (fun _ _=>0)
   case atStart=>exact ⟨rfl,hm⟩
   case round=>
    obtain ⟨rfl,hm⟩:=hrel
    go_wp2_with fail
    go_loopw [11] (fun i wx=>i=.int .i64 0/\Mod N0 w wx) (fun _ _=>0)
    case atStart=>exact ⟨rfl,hm⟩
    case round=>
     obtain ⟨rfl,hm⟩:=hrel
     go_wp2_with fail
     go_loopw [14] (fun i wx=>i=.int .i64 0/\Mod N0 w wx) (fun _ _=>0)
     case atStart=>exact ⟨rfl,hm⟩
     case round=>
      obtain ⟨rfl,hm⟩:=hrel
      go_wp2_with fail
      go_ret
      exact ⟨rfl,hm⟩
set_option maxRecDepth 100000 in
theorem flat74 (w:World):Calls Tryz.prog 74 #[.slice none 0 0] w fun e w'=>e=.returned (.bool true)/\Mod N0 w w':=by
 go_enter Tryz.func74,Tryz.ntmps74
 go_wp2_with fail
 go_loopw [3] (fun i wx=>i=.int .i64 0/\Mod N0 w wx) (fun _ _=>0)
 case atStart=>exact ⟨rfl,Mod.refl _ w⟩
 case round=>
  obtain ⟨rfl,hm⟩:=hrel
  go_wp2_with fail
  obtain ⟨w2,hmk,hm2⟩:=make0 Tryz.underlying108 (by kernel_rfl) wr
  rw [hmk]
  have hm3:=hm.tr hm2
  generalize wr.heap.size=G
  clear hmk hm2 hm
  go_wp2_with fail
  go_loopw [6] (fun i wx=>i=.int .i64 0/\Mod N0 w wx) (fun _ _=>0)
  case atStart=>exact ⟨rfl,hm3⟩
  case round=>
   obtain ⟨rfl,hm⟩:=hrel
   clear hm3
   go_wp2_with fail
   go_loopw [9] (fun i wx=>i=.int .i64 0/\Mod N0 w wx) (fun _ _=>0)
   case atStart=>exact ⟨rfl,hm⟩
   case round=>
    obtain ⟨rfl,hm⟩:=hrel
    go_wp2_with fail
    go_loopw [11] (fun i wx=>i=.int .i64 0/\Mod N0 w wx) (fun _ _=>0)
    case atStart=>exact ⟨rfl,hm⟩
    case round=>
     obtain ⟨rfl,hm⟩:=hrel
     go_wp2_with fail
     go_loopw [14] (fun i wx=>i=.int .i64 0/\Mod N0 w wx) (fun _ _=>0)
     case atStart=>exact ⟨rfl,hm⟩
     case round=>
      obtain ⟨rfl,hm⟩:=hrel
      go_wp2_with fail
      go_ret
      exact ⟨rfl,hm⟩
set_option maxRecDepth 100000 in
theorem flat75 (w:World):Calls Tryz.prog 75 #[.slice none 0 0] w fun e w'=>e=.returned (.bool true)/\Mod N0 w w':=by
 go_enter Tryz.func75,Tryz.ntmps75
 go_wp2_with fail
 go_loopw [3] (fun i wx=>i=.int .i64 0/\Mod N0 w wx) (fun _ _=>0)
 case atStart=>exact ⟨rfl,Mod.refl _ w⟩
 case round=>
  obtain ⟨rfl,hm⟩:=hrel
  go_wp2_with fail
  obtain ⟨w2,hmk,hm2⟩:=make0 Tryz.underlying109 (by kernel_rfl) wr
  rw [hmk]
  have hm3:=hm.tr hm2
  generalize wr.heap.size=G
  clear hmk hm2 hm
  go_wp2_with fail
  go_loopw [6] (fun i wx=>i=.int .i64 0/\Mod N0 w wx) (fun _ _=>0)
  case atStart=>exact ⟨rfl,hm3⟩
  case round=>
   obtain ⟨rfl,hm⟩:=hrel
   clear hm3
   go_wp2_with fail
   go_loopw [9] (fun i wx=>i=.int .i64 0/\Mod N0 w wx) (fun _ _=>0)
   case atStart=>exact ⟨rfl,hm⟩
   case round=>
    obtain ⟨rfl,hm⟩:=hrel
    go_wp2_with fail
    go_loopw [11] (fun i wx=>i=.int .i64 0/\Mod N0 w wx) (fun _ _=>0)
    case atStart=>exact ⟨rfl,hm⟩
    case round=>
     obtain ⟨rfl,hm⟩:=hrel
     go_wp2_with fail
     go_loopw [14] (fun i wx=>i=.int .i64 0/\Mod N0 w wx) (fun _ _=>0)
     case atStart=>exact ⟨rfl,hm⟩
     case round=>
      obtain ⟨rfl,hm⟩:=hrel
      go_wp2_with fail
      go_ret
      exact ⟨rfl,hm⟩
set_option maxRecDepth 100000 in
theorem flat76 (w:World):Calls Tryz.prog 76 #[.slice none 0 0] w fun e w'=>e=.returned (.bool true)/\Mod N0 w w':=by
 go_enter Tryz.func76,Tryz.ntmps76
 go_wp2_with fail
 go_loopw [3] (fun i wx=>i=.int .i64 0/\Mod N0 w wx) (fun _ _=>0)
 case atStart=>exact ⟨rfl,Mod.refl _ w⟩
 case round=>
  obtain ⟨rfl,hm⟩:=hrel
  go_wp2_with fail
  obtain ⟨w2,hmk,hm2⟩:=make0 Tryz.underlying110 (by kernel_rfl) wr
  rw [hmk]
  have hm3:=hm.tr hm2
  generalize wr.heap.size=G
  clear hmk hm2 hm
  go_wp2_with fail
  go_loopw [6] (fun i wx=>i=.int .i64 0/\Mod N0 w wx) (fun _ _=>0)
  case atStart=>exact ⟨rfl,hm3⟩
  case round=>
   obtain ⟨rfl,hm⟩:=hrel
   clear hm3
   go_wp2_with fail
   go_loopw [9] (fun i wx=>i=.int .i64 0/\Mod N0 w wx) (fun _ _=>0)
   case atStart=>exact ⟨rfl,hm⟩
   case round=>
    obtain ⟨rfl,hm⟩:=hrel
    go_wp2_with fail
    go_loopw [11] (fun i wx=>i=.int .i64 0/\Mod N0 w wx) (fun _ _=>0)
    case atStart=>exact ⟨rfl,hm⟩
    case round=>
     obtain ⟨rfl,hm⟩:=hrel
     go_wp2_with fail
     go_loopw [14] (fun i wx=>i=.int .i64 0/\Mod N0 w wx) (fun _ _=>0)
     case atStart=>exact ⟨rfl,hm⟩
     case round=>
      obtain ⟨rfl,hm⟩:=hrel
      go_wp2_with fail
      go_ret
      exact ⟨rfl,hm⟩
set_option maxRecDepth 100000 in
theorem flat77 (w:World):Calls Tryz.prog 77 #[.slice none 0 0] w fun e w'=>e=.returned (.bool true)/\Mod N0 w w':=by
 go_enter Tryz.func77,Tryz.ntmps77
 go_wp2_with fail
 go_loopw [3] (fun i wx=>i=.int .i64 0/\Mod N0 w wx) (fun _ _=>0)
 case atStart=>exact ⟨rfl,Mod.refl _ w⟩
 case round=>
  obtain ⟨rfl,hm⟩:=hrel
  go_wp2_with fail
  obtain ⟨w2,hmk,hm2⟩:=make0 Tryz.underlying111 (by kernel_rfl) wr
  rw [hmk]
  have hm3:=hm.tr hm2
  generalize wr.heap.size=G
  clear hmk hm2 hm
  go_wp2_with fail
  go_loopw [6] (fun i wx=>i=.int .i64 0/\Mod N0 w wx) (fun _ _=>0)
  case atStart=>exact ⟨rfl,hm3⟩
  case round=>
   obtain ⟨rfl,hm⟩:=hrel
   clear hm3
   go_wp2_with fail
   go_loopw [9] (fun i wx=>i=.int .i64 0/\Mod N0 w wx) (fun _ _=>0)
   case atStart=>exact ⟨rfl,hm⟩
   case round=>
    obtain ⟨rfl,hm⟩:=hrel
    go_wp2_with fail
    go_loopw [11] (fun i wx=>i=.int .i64 0/\Mod N0 w wx) (fun _ _=>0)
    case atStart=>exact ⟨rfl,hm⟩
    case round=>
     obtain ⟨rfl,hm⟩:=hrel
     go_wp2_with fail
     go_loopw [14] (fun i wx=>i=.int .i64 0/\Mod N0 w wx) (fun _ _=>0)
     case atStart=>exact ⟨rfl,hm⟩
     case round=>
      obtain ⟨rfl,hm⟩:=hrel
      go_wp2_with fail
      go_ret
      exact ⟨rfl,hm⟩
set_option maxRecDepth 100000 in
theorem flat78 (w:World):Calls Tryz.prog 78 #[.slice none 0 0] w fun e w'=>e=.returned (.bool true)/\Mod N0 w w':=by
 go_enter Tryz.func78,Tryz.ntmps78
 go_wp2_with fail
 go_loopw [3] (fun i wx=>i=.int .i64 0/\Mod N0 w wx) (fun _ _=>0)
 case atStart=>exact ⟨rfl,Mod.refl _ w⟩
 case round=>
  obtain ⟨rfl,hm⟩:=hrel
  go_wp2_with fail
  obtain ⟨w2,hmk,hm2⟩:=make0 Tryz.underlying112 (by kernel_rfl) wr
  rw [hmk]
  have hm3:=hm.tr hm2
  generalize wr.heap.size=G
  clear hmk hm2 hm
  go_wp2_with fail
  go_loopw [6] (fun i wx=>i=.int .i64 0/\Mod N0 w wx) (fun _ _=>0)
  case atStart=>exact ⟨rfl,hm3⟩
  case round=>
   obtain ⟨rfl,hm⟩:=hrel
   clear hm3
   go_wp2_with fail
   go_loopw [9] (fun i wx=>i=.int .i64 0/\Mod N0 w wx) (fun _ _=>0)
   case atStart=>exact ⟨rfl,hm⟩
   case round=>
    obtain ⟨rfl,hm⟩:=hrel
    go_wp2_with fail
    go_loopw [11] (fun i wx=>i=.int .i64 0/\Mod N0 w wx) (fun _ _=>0)
    case atStart=>exact ⟨rfl,hm⟩
    case round=>
     obtain ⟨rfl,hm⟩:=hrel
     go_wp2_with fail
     go_loopw [14] (fun i wx=>i=.int .i64 0/\Mod N0 w wx) (fun _ _=>0)
     case atStart=>exact ⟨rfl,hm⟩
     case round=>
      obtain ⟨rfl,hm⟩:=hrel
      go_wp2_with fail
      go_ret
      exact ⟨rfl,hm⟩
set_option maxRecDepth 100000 in
theorem flat79 (w:World):Calls Tryz.prog 79 #[.slice none 0 0] w fun e w'=>e=.returned (.bool true)/\Mod N0 w w':=by
 go_enter Tryz.func79,Tryz.ntmps79
 go_wp2_with fail
 go_loopw [3] (fun i wx=>i=.int .i64 0/\Mod N0 w wx) (fun _ _=>0)
 case atStart=>exact ⟨rfl,Mod.refl _ w⟩
 case round=>
  obtain ⟨rfl,hm⟩:=hrel
  go_wp2_with fail
  obtain ⟨w2,hmk,hm2⟩:=make0 Tryz.underlying113 (by kernel_rfl) wr
  rw [hmk]
  have hm3:=hm.tr hm2
  generalize wr.heap.size=G
  clear hmk hm2 hm
  go_wp2_with fail
  go_loopw [6] (fun i wx=>i=.int .i64 0/\Mod N0 w wx) (fun _ _=>0)
  case atStart=>exact ⟨rfl,hm3⟩
  case round=>
   obtain ⟨rfl,hm⟩:=hrel
   clear hm3
   go_wp2_with fail
   go_loopw [9] (fun i wx=>i=.int .i64 0/\Mod N0 w wx) (fun _ _=>0)
   case atStart=>exact ⟨rfl,hm⟩
   case round=>
    obtain ⟨rfl,hm⟩:=hrel
    go_wp2_with fail
    go_loopw [11] (fun i wx=>i=.int .i64 0/\Mod N0 w wx) (fun _ _=>0)
    case atStart=>exact ⟨rfl,hm⟩
    case round=>
     obtain ⟨rfl,hm⟩:=hrel
     go_wp2_with fail
     go_loopw [14] (fun i wx=>i=.int .i64 0/\Mod N0 w wx) (fun _ _=>0)
     case atStart=>exact ⟨rfl,hm⟩
     case round=>
      obtain ⟨rfl,hm⟩:=hrel
      go_wp2_with fail
      go_ret
      exact ⟨rfl,hm⟩
set_option maxRecDepth 100000 in
theorem flat80 (w:World):Calls Tryz.prog 80 #[.slice none 0 0] w fun e w'=>e=.returned (.bool true)/\Mod N0 w w':=by
 go_enter Tryz.func80,Tryz.ntmps80
 go_wp2_with fail
 go_loopw [3] (fun i wx=>i=.int .i64 0/\Mod N0 w wx) (fun _ _=>0)
 case atStart=>exact ⟨rfl,Mod.refl _ w⟩
 case round=>
  obtain ⟨rfl,hm⟩:=hrel
  go_wp2_with fail
  obtain ⟨w2,hmk,hm2⟩:=make0 Tryz.underlying114 (by kernel_rfl) wr
  rw [hmk]
  have hm3:=hm.tr hm2
  generalize wr.heap.size=G
  clear hmk hm2 hm
  go_wp2_with fail
  go_loopw [6] (fun i wx=>i=.int .i64 0/\Mod N0 w wx) (fun _ _=>0)
  case atStart=>exact ⟨rfl,hm3⟩
  case round=>
   obtain ⟨rfl,hm⟩:=hrel
   clear hm3
   go_wp2_with fail
   go_loopw [9] (fun i wx=>i=.int .i64 0/\Mod N0 w wx) (fun _ _=>0)
   case atStart=>exact ⟨rfl,hm⟩
   case round=>
    obtain ⟨rfl,hm⟩:=hrel
    go_wp2_with fail
    go_loopw [11] (fun i wx=>i=.int .i64 0/\Mod N0 w wx) (fun _ _=>0)
    case atStart=>exact ⟨rfl,hm⟩
    case round=>
     obtain ⟨rfl,hm⟩:=hrel
     go_wp2_with fail
     go_loopw [14] (fun i wx=>i=.int .i64 0/\Mod N0 w wx) (fun _ _=>0)
     case atStart=>exact ⟨rfl,hm⟩
     case round=>
      obtain ⟨rfl,hm⟩:=hrel
      go_wp2_with fail
      go_ret
      exact ⟨rfl,hm⟩
set_option maxRecDepth 100000 in
theorem flat81 (w:World):Calls Tryz.prog 81 #[.slice none 0 0] w fun e w'=>e=.returned (.bool true)/\Mod N0 w w':=by
 go_enter Tryz.func81,Tryz.ntmps81
 go_wp2_with fail
 go_loopw [3] (fun i wx=>i=.int .i64 0/\Mod N0 w wx) (fun _ _=>0)
 case atStart=>exact ⟨rfl,Mod.refl _ w⟩
 case round=>
  obtain ⟨rfl,hm⟩:=hrel
  go_wp2_with fail
  obtain ⟨w2,hmk,hm2⟩:=make0 Tryz.underlying115 (by kernel_rfl) wr
  rw [hmk]
  have hm3:=hm.tr hm2
  generalize wr.heap.size=G
  clear hmk hm2 hm
  go_wp2_with fail
  go_loopw [6] (fun i wx=>i=.int .i64 0/\Mod N0 w wx) (fun _ _=>0)
  case atStart=>exact ⟨rfl,hm3⟩
  case round=>
   obtain ⟨rfl,hm⟩:=hrel
   clear hm3
   go_wp2_with fail
   go_loopw [9] (fun i wx=>i=.int .i64 0/\Mod N0 w wx) (fun _ _=>0)
   case atStart=>exact ⟨rfl,hm⟩
   case round=>
    obtain ⟨rfl,hm⟩:=hrel
    go_wp2_with fail
    go_loopw [11] (fun i wx=>i=.int .i64 0/\Mod N0 w wx) (fun _ _=>0)
    case atStart=>exact ⟨rfl,hm⟩
    case round=>
     obtain ⟨rfl,hm⟩:=hrel
     go_wp2_with fail
     go_loopw [14] (fun i wx=>i=.int .i64 0/\Mod N0 w wx) (fun _ _=>0)
     case atStart=>exact ⟨rfl,hm⟩
     case round=>
      obtain ⟨rfl,hm⟩:=hrel
      go_wp2_with fail
      go_ret
      exact ⟨rfl,hm⟩
set_option maxRecDepth 100000 in
theorem flat82 (w:World):Calls Tryz.prog 82 #[.slice none 0 0] w fun e w'=>e=.returned (.bool true)/\Mod N0 w w':=by
 go_enter Tryz.func82,Tryz.ntmps82
 go_wp2_with fail
 go_loopw [3] (fun i wx=>i=.int .i64 0/\Mod N0 w wx) (fun _ _=>0)
 case atStart=>exact ⟨rfl,Mod.refl _ w⟩
 case round=>
  obtain ⟨rfl,hm⟩:=hrel
  go_wp2_with fail
  obtain ⟨w2,hmk,hm2⟩:=make0 Tryz.underlying116 (by kernel_rfl) wr
  rw [hmk]
  have hm3:=hm.tr hm2
  generalize wr.heap.size=G
  clear hmk hm2 hm
  go_wp2_with fail
  go_loopw [6] (fun i wx=>i=.int .i64 0/\Mod N0 w wx) (fun _ _=>0)
  case atStart=>exact ⟨rfl,hm3⟩
  case round=>
   obtain ⟨rfl,hm⟩:=hrel
   clear hm3
   go_wp2_with fail
   go_loopw [9] (fun i wx=>i=.int .i64 0/\Mod N0 w wx) (fun _ _=>0)
   case atStart=>exact ⟨rfl,hm⟩
   case round=>
    obtain ⟨rfl,hm⟩:=hrel
    go_wp2_with fail
    go_loopw [11] (fun i wx=>i=.int .i64 0/\Mod N0 w wx) (fun _ _=>0)
    case atStart=>exact ⟨rfl,hm⟩
    case round=>
     obtain ⟨rfl,hm⟩:=hrel
     go_wp2_with fail
     go_loopw [14] (fun i wx=>i=.int .i64 0/\Mod N0 w wx) (fun _ _=>0)
     case atStart=>exact ⟨rfl,hm⟩
     case round=>
      obtain ⟨rfl,hm⟩:=hrel
      go_wp2_with fail
      go_ret
      exact ⟨rfl,hm⟩
set_option maxRecDepth 100000 in
theorem flat83 (w:World):Calls Tryz.prog 83 #[.slice none 0 0] w fun e w'=>e=.returned (.bool true)/\Mod N0 w w':=by
 go_enter Tryz.func83,Tryz.ntmps83
 go_wp2_with fail
 go_loopw [3] (fun i wx=>i=.int .i64 0/\Mod N0 w wx) (fun _ _=>0)
 case atStart=>exact ⟨rfl,Mod.refl _ w⟩
 case round=>
  obtain ⟨rfl,hm⟩:=hrel
  go_wp2_with fail
  obtain ⟨w2,hmk,hm2⟩:=make0 Tryz.underlying117 (by kernel_rfl) wr
  rw [hmk]
  have hm3:=hm.tr hm2
  generalize wr.heap.size=G
  clear hmk hm2 hm
  go_wp2_with fail
  go_loopw [6] (fun i wx=>i=.int .i64 0/\Mod N0 w wx) (fun _ _=>0)
  case atStart=>exact ⟨rfl,hm3⟩
  case round=>
   obtain ⟨rfl,hm⟩:=hrel
   clear hm3
   go_wp2_with fail
   go_loopw [9] (fun i wx=>i=.int .i64 0/\Mod N0 w wx) (fun _ _=>0)
   case atStart=>exact ⟨rfl,hm⟩
   case round=>
    obtain ⟨rfl,hm⟩:=hrel
    go_wp2_with fail
    go_loopw [11] (fun i wx=>i=.int .i64 0/\Mod N0 w wx) (fun _ _=>0)
    case atStart=>exact ⟨rfl,hm⟩
    case round=>
     obtain ⟨rfl,hm⟩:=hrel
     go_wp2_with fail
     go_loopw [14] (fun i wx=>i=.int .i64 0/\Mod N0 w wx) (fun _ _=>0)
     case atStart=>exact ⟨rfl,hm⟩
     case round=>
      obtain ⟨rfl,hm⟩:=hrel
      go_wp2_with fail
      go_ret
      exact ⟨rfl,hm⟩
set_option maxRecDepth 100000 in
theorem flat84 (w:World):Calls Tryz.prog 84 #[.slice none 0 0] w fun e w'=>e=.returned (.bool true)/\Mod N0 w w':=by
 go_enter Tryz.func84,Tryz.ntmps84
 go_wp2_with fail
 go_loopw [3] (fun i wx=>i=.int .i64 0/\Mod N0 w wx) (fun _ _=>0)
 case atStart=>exact ⟨rfl,Mod.refl _ w⟩
 case round=>
  obtain ⟨rfl,hm⟩:=hrel
  go_wp2_with fail
  obtain ⟨w2,hmk,hm2⟩:=make0 Tryz.underlying118 (by kernel_rfl) wr
  rw [hmk]
  have hm3:=hm.tr hm2
  generalize wr.heap.size=G
  clear hmk hm2 hm
  go_wp2_with fail
  go_loopw [6] (fun i wx=>i=.int .i64 0/\Mod N0 w wx) (fun _ _=>0)
  case atStart=>exact ⟨rfl,hm3⟩
  case round=>
   obtain ⟨rfl,hm⟩:=hrel
   clear hm3
   go_wp2_with fail
   go_loopw [9] (fun i wx=>i=.int .i64 0/\Mod N0 w wx) (fun _ _=>0)
   case atStart=>exact ⟨rfl,hm⟩
   case round=>
    obtain ⟨rfl,hm⟩:=hrel
    go_wp2_with fail
    go_loopw [11] (fun i wx=>i=.int .i64 0/\Mod N0 w wx) (fun _ _=>0)
    case atStart=>exact ⟨rfl,hm⟩
    case round=>
     obtain ⟨rfl,hm⟩:=hrel
     go_wp2_with fail
     go_loopw [14] (fun i wx=>i=.int .i64 0/\Mod N0 w wx) (fun _ _=>0)
     case atStart=>exact ⟨rfl,hm⟩
     case round=>
      obtain ⟨rfl,hm⟩:=hrel
      go_wp2_with fail
      go_ret
      exact ⟨rfl,hm⟩
set_option maxRecDepth 100000 in
theorem flat85 (w:World):Calls Tryz.prog 85 #[.slice none 0 0] w fun e w'=>e=.returned (.bool true)/\Mod N0 w w':=by
 go_enter Tryz.func85,Tryz.ntmps85
 go_wp2_with fail
 go_loopw [3] (fun i wx=>i=.int .i64 0/\Mod N0 w wx) (fun _ _=>0)
 case atStart=>exact ⟨rfl,Mod.refl _ w⟩
 case round=>
  obtain ⟨rfl,hm⟩:=hrel
  go_wp2_with fail
  obtain ⟨w2,hmk,hm2⟩:=make0 Tryz.underlying119 (by kernel_rfl) wr
  rw [hmk]
  have hm3:=hm.tr hm2
  generalize wr.heap.size=G
  clear hmk hm2 hm
  go_wp2_with fail
  go_loopw [6] (fun i wx=>i=.int .i64 0/\Mod N0 w wx) (fun _ _=>0)
  case atStart=>exact ⟨rfl,hm3⟩
  case round=>
   obtain ⟨rfl,hm⟩:=hrel
   clear hm3
   go_wp2_with fail
   go_loopw [9] (fun i wx=>i=.int .i64 0/\Mod N0 w wx) (fun _ _=>0)
   case atStart=>exact ⟨rfl,hm⟩
   case round=>
    obtain ⟨rfl,hm⟩:=hrel
    go_wp2_with fail
    go_loopw [11] (fun i wx=>i=.int .i64 0/\Mod N0 w wx) (fun _ _=>0)
    case atStart=>exact ⟨rfl,hm⟩
    case round=>
     obtain ⟨rfl,hm⟩:=hrel
     go_wp2_with fail
     go_loopw [14] (fun i wx=>i=.int .i64 0/\Mod N0 w wx) (fun _ _=>0)
     case atStart=>exact ⟨rfl,hm⟩
     case round=>
      obtain ⟨rfl,hm⟩:=hrel
      go_wp2_with fail
      go_ret
      exact ⟨rfl,hm⟩
set_option maxRecDepth 100000 in
theorem flat86 (w:World):Calls Tryz.prog 86 #[.slice none 0 0] w fun e w'=>e=.returned (.bool true)/\Mod N0 w w':=by
 go_enter Tryz.func86,Tryz.ntmps86
 go_wp2_with fail
 go_loopw [3] (fun i wx=>i=.int .i64 0/\Mod N0 w wx) (fun _ _=>0)
 case atStart=>exact ⟨rfl,Mod.refl _ w⟩
 case round=>
  obtain ⟨rfl,hm⟩:=hrel
  go_wp2_with fail
  obtain ⟨w2,hmk,hm2⟩:=make0 Tryz.underlying120 (by kernel_rfl) wr
  rw [hmk]
  have hm3:=hm.tr hm2
  generalize wr.heap.size=G
  clear hmk hm2 hm
  go_wp2_with fail
  go_loopw [6] (fun i wx=>i=.int .i64 0/\Mod N0 w wx) (fun _ _=>0)
  case atStart=>exact ⟨rfl,hm3⟩
  case round=>
   obtain ⟨rfl,hm⟩:=hrel
   clear hm3
   go_wp2_with fail
   go_loopw [9] (fun i wx=>i=.int .i64 0/\Mod N0 w wx) (fun _ _=>0)
   case atStart=>exact ⟨rfl,hm⟩
   case round=>
    obtain ⟨rfl,hm⟩:=hrel
    go_wp2_with fail
    go_loopw [11] (fun i wx=>i=.int .i64 0/\Mod N0 w wx) (fun _ _=>0)
    case atStart=>exact ⟨rfl,hm⟩
    case round=>
     obtain ⟨rfl,hm⟩:=hrel
     go_wp2_with fail
     go_loopw [14] (fun i wx=>i=.int .i64 0/\Mod N0 w wx) (fun _ _=>0)
     case atStart=>exact ⟨rfl,hm⟩
     case round=>
      obtain ⟨rfl,hm⟩:=hrel
      go_wp2_with fail
      go_ret
      exact ⟨rfl,hm⟩
set_option maxRecDepth 100000 in
theorem flat87 (w:World):Calls Tryz.prog 87 #[.slice none 0 0] w fun e w'=>e=.returned (.bool true)/\Mod N0 w w':=by
 go_enter Tryz.func87,Tryz.ntmps87
 go_wp2_with fail
 go_loopw [3] (fun i wx=>i=.int .i64 0/\Mod N0 w wx) (fun _ _=>0)
 case atStart=>exact ⟨rfl,Mod.refl _ w⟩
 case round=>
  obtain ⟨rfl,hm⟩:=hrel
  go_wp2_with fail
  obtain ⟨w2,hmk,hm2⟩:=make0 Tryz.underlying121 (by kernel_rfl) wr
  rw [hmk]
  have hm3:=hm.tr hm2
  generalize wr.heap.size=G
  clear hmk hm2 hm
  go_wp2_with fail
  go_loopw [6] (fun i wx=>i=.int .i64 0/\Mod N0 w wx) (fun _ _=>0)
  case atStart=>exact ⟨rfl,hm3⟩
  case round=>
   obtain ⟨rfl,hm⟩:=hrel
   clear hm3
   go_wp2_with fail
   go_loopw [9] (fun i wx=>i=.int .i64 0/\Mod N0 w wx) (fun _ _=>0)
   case atStart=>exact ⟨rfl,hm⟩
   case round=>
    obtain ⟨rfl,hm⟩:=hrel
    go_wp2_with fail
    go_loopw [11] (fun i wx=>i=.int .i64 0/\Mod N0 w wx) (fun _ _=>0)
    case atStart=>exact ⟨rfl,hm⟩
    case round=>
     obtain ⟨rfl,hm⟩:=hrel
     go_wp2_with fail
     go_loopw [14] (fun i wx=>i=.int .i64 0/\Mod N0 w wx) (fun _ _=>0)
     case atStart=>exact ⟨rfl,hm⟩
     case round=>
      obtain ⟨rfl,hm⟩:=hrel
      go_wp2_with fail
      go_ret
      exact ⟨rfl,hm⟩
set_option maxRecDepth 100000 in
theorem flat88 (w:World):Calls Tryz.prog 88 #[.slice none 0 0] w fun e w'=>e=.returned (.bool true)/\Mod N0 w w':=by
 go_enter Tryz.func88,Tryz.ntmps88
 go_wp2_with fail
 go_loopw [3] (fun i wx=>i=.int .i64 0/\Mod N0 w wx) (fun _ _=>0)
 case atStart=>exact ⟨rfl,Mod.refl _ w⟩
 case round=>
  obtain ⟨rfl,hm⟩:=hrel
  go_wp2_with fail
  obtain ⟨w2,hmk,hm2⟩:=make0 Tryz.underlying122 (by kernel_rfl) wr
  rw [hmk]
  have hm3:=hm.tr hm2
  generalize wr.heap.size=G
  clear hmk hm2 hm
  go_wp2_with fail
  go_loopw [6] (fun i wx=>i=.int .i64 0/\Mod N0 w wx) (fun _ _=>0)
  case atStart=>exact ⟨rfl,hm3⟩
  case round=>
   obtain ⟨rfl,hm⟩:=hrel
   clear hm3
   go_wp2_with fail
   go_loopw [9] (fun i wx=>i=.int .i64 0/\Mod N0 w wx) (fun _ _=>0)
   case atStart=>exact ⟨rfl,hm⟩
   case round=>
    obtain ⟨rfl,hm⟩:=hrel
    go_wp2_with fail
    go_loopw [11] (fun i wx=>i=.int .i64 0/\Mod N0 w wx) (fun _ _=>0)
    case atStart=>exact ⟨rfl,hm⟩
    case round=>
     obtain ⟨rfl,hm⟩:=hrel
     go_wp2_with fail
     go_loopw [14] (fun i wx=>i=.int .i64 0/\Mod N0 w wx) (fun _ _=>0)
     case atStart=>exact ⟨rfl,hm⟩
     case round=>
      obtain ⟨rfl,hm⟩:=hrel
      go_wp2_with fail
      go_ret
      exact ⟨rfl,hm⟩
set_option maxRecDepth 100000 in
theorem flat89 (w:World):Calls Tryz.prog 89 #[.slice none 0 0] w fun e w'=>e=.returned (.bool true)/\Mod N0 w w':=by
 go_enter Tryz.func89,Tryz.ntmps89
 go_wp2_with fail
 go_loopw [3] (fun i wx=>i=.int .i64 0/\Mod N0 w wx) (fun _ _=>0)
 case atStart=>exact ⟨rfl,Mod.refl _ w⟩
 case round=>
  obtain ⟨rfl,hm⟩:=hrel
  go_wp2_with fail
  obtain ⟨w2,hmk,hm2⟩:=make0 Tryz.underlying123 (by kernel_rfl) wr
  rw [hmk]
  have hm3:=hm.tr hm2
  generalize wr.heap.size=G
  clear hmk hm2 hm
  go_wp2_with fail
  go_loopw [6] (fun i wx=>i=.int .i64 0/\Mod N0 w wx) (fun _ _=>0)
  case atStart=>exact ⟨rfl,hm3⟩
  case round=>
   obtain ⟨rfl,hm⟩:=hrel
   clear hm3
   go_wp2_with fail
   go_loopw [9] (fun i wx=>i=.int .i64 0/\Mod N0 w wx) (fun _ _=>0)
   case atStart=>exact ⟨rfl,hm⟩
   case round=>
    obtain ⟨rfl,hm⟩:=hrel
    go_wp2_with fail
    go_loopw [11] (fun i wx=>i=.int .i64 0/\Mod N0 w wx) (fun _ _=>0)
    case atStart=>exact ⟨rfl,hm⟩
    case round=>
     obtain ⟨rfl,hm⟩:=hrel
     go_wp2_with fail
     go_loopw [14] (fun i wx=>i=.int .i64 0/\Mod N0 w wx) (fun _ _=>0)
     case atStart=>exact ⟨rfl,hm⟩
     case round=>
      obtain ⟨rfl,hm⟩:=hrel
      go_wp2_with fail
      go_ret
      exact ⟨rfl,hm⟩
set_option maxRecDepth 100000 in
theorem flat90 (w:World):Calls Tryz.prog 90 #[.slice none 0 0] w fun e w'=>e=.returned (.bool true)/\Mod N0 w w':=by
 go_enter Tryz.func90,Tryz.ntmps90
 go_wp2_with fail
 go_loopw [3] (fun i wx=>i=.int .i64 0/\Mod N0 w wx) (fun _ _=>0)
 case atStart=>exact ⟨rfl,Mod.refl _ w⟩
 case round=>
  obtain ⟨rfl,hm⟩:=hrel
  go_wp2_with fail
  obtain ⟨w2,hmk,hm2⟩:=make0 Tryz.underlying124 (by kernel_rfl) wr
  rw [hmk]
  have hm3:=hm.tr hm2
  generalize wr.heap.size=G
  clear hmk hm2 hm
  go_wp2_with fail
  go_loopw [6] (fun i wx=>i=.int .i64 0/\Mod N0 w wx) (fun _ _=>0)
  case atStart=>exact ⟨rfl,hm3⟩
  case round=>
   obtain ⟨rfl,hm⟩:=hrel
   clear hm3
   go_wp2_with fail
   go_loopw [9] (fun i wx=>i=.int .i64 0/\Mod N0 w wx) (fun _ _=>0)
   case atStart=>exact ⟨rfl,hm⟩
   case round=>
    obtain ⟨rfl,hm⟩:=hrel
    go_wp2_with fail
    go_loopw [11] (fun i wx=>i=.int .i64 0/\Mod N0 w wx) (fun _ _=>0)
    case atStart=>exact ⟨rfl,hm⟩
    case round=>
     obtain ⟨rfl,hm⟩:=hrel
     go_wp2_with fail
     go_loopw [14] (fun i wx=>i=.int .i64 0/\Mod N0 w wx) (fun _ _=>0)
     case atStart=>exact ⟨rfl,hm⟩
     case round=>
      obtain ⟨rfl,hm⟩:=hrel
      go_wp2_with fail
      go_ret
      exact ⟨rfl,hm⟩
set_option maxRecDepth 100000 in
theorem flat91 (w:World):Calls Tryz.prog 91 #[.slice none 0 0] w fun e w'=>e=.returned (.bool true)/\Mod N0 w w':=by
 go_enter Tryz.func91,Tryz.ntmps91
 go_wp2_with fail
 go_loopw [3] (fun i wx=>i=.int .i64 0/\Mod N0 w wx) (fun _ _=>0)
 case atStart=>exact ⟨rfl,Mod.refl _ w⟩
 case round=>
  obtain ⟨rfl,hm⟩:=hrel
  go_wp2_with fail
  obtain ⟨w2,hmk,hm2⟩:=make0 Tryz.underlying125 (by kernel_rfl) wr
  rw [hmk]
  have hm3:=hm.tr hm2
  generalize wr.heap.size=G
  clear hmk hm2 hm
  go_wp2_with fail
  go_loopw [6] (fun i wx=>i=.int .i64 0/\Mod N0 w wx) (fun _ _=>0)
  case atStart=>exact ⟨rfl,hm3⟩
  case round=>
   obtain ⟨rfl,hm⟩:=hrel
   clear hm3
   go_wp2_with fail
   go_loopw [9] (fun i wx=>i=.int .i64 0/\Mod N0 w wx) (fun _ _=>0)
   case atStart=>exact ⟨rfl,hm⟩
   case round=>
    obtain ⟨rfl,hm⟩:=hrel
    go_wp2_with fail
    go_loopw [11] (fun i wx=>i=.int .i64 0/\Mod N0 w wx) (fun _ _=>0)
    case atStart=>exact ⟨rfl,hm⟩
    case round=>
     obtain ⟨rfl,hm⟩:=hrel
     go_wp2_with fail
     go_loopw [14] (fun i wx=>i=.int .i64 0/\Mod N0 w wx) (fun _ _=>0)
     case atStart=>exact ⟨rfl,hm⟩
     case round=>
      obtain ⟨rfl,hm⟩:=hrel
      go_wp2_with fail
      go_ret
      exact ⟨rfl,hm⟩
set_option maxRecDepth 100000 in
theorem flat92 (w:World):Calls Tryz.prog 92 #[.slice none 0 0] w fun e w'=>e=.returned (.bool true)/\Mod N0 w w':=by
 go_enter Tryz.func92,Tryz.ntmps92
 go_wp2_with fail
 go_loopw [3] (fun i wx=>i=.int .i64 0/\Mod N0 w wx) (fun _ _=>0)
 case atStart=>exact ⟨rfl,Mod.refl _ w⟩
 case round=>
  obtain ⟨rfl,hm⟩:=hrel
  go_wp2_with fail
  obtain ⟨w2,hmk,hm2⟩:=make0 Tryz.underlying126 (by kernel_rfl) wr
  rw [hmk]
  have hm3:=hm.tr hm2
  generalize wr.heap.size=G
  clear hmk hm2 hm
  go_wp2_with fail
  go_loopw [6] (fun i wx=>i=.int .i64 0/\Mod N0 w wx) (fun _ _=>0)
  case atStart=>exact ⟨rfl,hm3⟩
  case round=>
   obtain ⟨rfl,hm⟩:=hrel
   clear hm3
   go_wp2_with fail
   go_loopw [9] (fun i wx=>i=.int .i64 0/\Mod N0 w wx) (fun _ _=>0)
   case atStart=>exact ⟨rfl,hm⟩
   case round=>
    obtain ⟨rfl,hm⟩:=hrel
    go_wp2_with fail
    go_loopw [11] (fun i wx=>i=.int .i64 0/\Mod N0 w wx) (fun _ _=>0)
    case atStart=>exact ⟨rfl,hm⟩
    case round=>
     obtain ⟨rfl,hm⟩:=hrel
     go_wp2_with fail
     go_loopw [14] (fun i wx=>i=.int .i64 0/\Mod N0 w wx) (fun _ _=>0)
     case atStart=>exact ⟨rfl,hm⟩
     case round=>
      obtain ⟨rfl,hm⟩:=hrel
      go_wp2_with fail
      go_ret
      exact ⟨rfl,hm⟩
set_option maxRecDepth 100000 in
theorem flat93 (w:World):Calls Tryz.prog 93 #[.slice none 0 0] w fun e w'=>e=.returned (.bool true)/\Mod N0 w w':=by
 go_enter Tryz.func93,Tryz.ntmps93
 go_wp2_with fail
 go_loopw [3] (fun i wx=>i=.int .i64 0/\Mod N0 w wx) (fun _ _=>0)
 case atStart=>exact ⟨rfl,Mod.refl _ w⟩
 case round=>
  obtain ⟨rfl,hm⟩:=hrel
  go_wp2_with fail
  obtain ⟨w2,hmk,hm2⟩:=make0 Tryz.underlying127 (by kernel_rfl) wr
  rw [hmk]
  have hm3:=hm.tr hm2
  generalize wr.heap.size=G
  clear hmk hm2 hm
  go_wp2_with fail
  go_loopw [6] (fun i wx=>i=.int .i64 0/\Mod N0 w wx) (fun _ _=>0)
  case atStart=>exact ⟨rfl,hm3⟩
  case round=>
   obtain ⟨rfl,hm⟩:=hrel
   clear hm3
   go_wp2_with fail
   go_loopw [9] (fun i wx=>i=.int .i64 0/\Mod N0 w wx) (fun _ _=>0)
   case atStart=>exact ⟨rfl,hm⟩
   case round=>
    obtain ⟨rfl,hm⟩:=hrel
    go_wp2_with fail
    go_loopw [11] (fun i wx=>i=.int .i64 0/\Mod N0 w wx) (fun _ _=>0)
    case atStart=>exact ⟨rfl,hm⟩
    case round=>
     obtain ⟨rfl,hm⟩:=hrel
     go_wp2_with fail
     go_loopw [14] (fun i wx=>i=.int .i64 0/\Mod N0 w wx) (fun _ _=>0)
     case atStart=>exact ⟨rfl,hm⟩
     case round=>
      obtain ⟨rfl,hm⟩:=hrel
      go_wp2_with fail
      go_ret
      exact ⟨rfl,hm⟩
set_option maxRecDepth 100000 in
theorem flat95 (w:World):Calls Tryz.prog 95 #[.slice none 0 0] w fun e w'=>e=.returned (.bool true)/\Mod N0 w w':=by
 go_enter Tryz.func95,Tryz.ntmps95
 go_wp2_with fail
 go_loopw [3] (fun i wx=>i=.int .i64 0/\Mod N0 w wx) (fun _ _=>0)
 case atStart=>exact ⟨rfl,Mod.refl _ w⟩
 case round=>
  obtain ⟨rfl,hm⟩:=hrel
  go_wp2_with fail
  obtain ⟨w2,hmk,hm2⟩:=make0 Tryz.underlying128 (by kernel_rfl) wr
  rw [hmk]
  have hm3:=hm.tr hm2
  generalize wr.heap.size=G
  clear hmk hm2 hm
  go_wp2_with fail
  go_loopw [6] (fun i wx=>i=.int .i64 0/\Mod N0 w wx) (fun _ _=>0)
  case atStart=>exact ⟨rfl,hm3⟩
  case round=>
   obtain ⟨rfl,hm⟩:=hrel
   clear hm3
   go_wp2_with fail
   go_loopw [9] (fun i wx=>i=.int .i64 0/\Mod N0 w wx) (fun _ _=>0)
   case atStart=>exact ⟨rfl,hm⟩
   case round=>
    obtain ⟨rfl,hm⟩:=hrel
    go_wp2_with fail
    go_loopw [11] (fun i wx=>i=.int .i64 0/\Mod N0 w wx) (fun _ _=>0)
    case atStart=>exact ⟨rfl,hm⟩
    case round=>
     obtain ⟨rfl,hm⟩:=hrel
     go_wp2_with fail
     go_loopw [14] (fun i wx=>i=.int .i64 0/\Mod N0 w wx) (fun _ _=>0)
     case atStart=>exact ⟨rfl,hm⟩
     case round=>
      obtain ⟨rfl,hm⟩:=hrel
      go_wp2_with fail
      go_ret
      exact ⟨rfl,hm⟩
set_option maxRecDepth 100000 in
theorem flat96 (w:World):Calls Tryz.prog 96 #[.slice none 0 0] w fun e w'=>e=.returned (.bool true)/\Mod N0 w w':=by
 go_enter Tryz.func96,Tryz.ntmps96
 go_wp2_with fail
 go_loopw [3] (fun i wx=>i=.int .i64 0/\Mod N0 w wx) (fun _ _=>0)
 case atStart=>exact ⟨rfl,Mod.refl _ w⟩
 case round=>
  obtain ⟨rfl,hm⟩:=hrel
  go_wp2_with fail
  obtain ⟨w2,hmk,hm2⟩:=make0 Tryz.underlying129 (by kernel_rfl) wr
  rw [hmk]
  have hm3:=hm.tr hm2
  generalize wr.heap.size=G
  clear hmk hm2 hm
  go_wp2_with fail
  go_loopw [6] (fun i wx=>i=.int .i64 0/\Mod N0 w wx) (fun _ _=>0)
  case atStart=>exact ⟨rfl,hm3⟩
  case round=>
   obtain ⟨rfl,hm⟩:=hrel
   clear hm3
   go_wp2_with fail
   go_loopw [9] (fun i wx=>i=.int .i64 0/\Mod N0 w wx) (fun _ _=>0)
   case atStart=>exact ⟨rfl,hm⟩
   case round=>
    obtain ⟨rfl,hm⟩:=hrel
    go_wp2_with fail
    go_loopw [11] (fun i wx=>i=.int .i64 0/\Mod N0 w wx) (fun _ _=>0)
    case atStart=>exact ⟨rfl,hm⟩
    case round=>
     obtain ⟨rfl,hm⟩:=hrel
     go_wp2_with fail
     go_loopw [14] (fun i wx=>i=.int .i64 0/\Mod N0 w wx) (fun _ _=>0)
     case atStart=>exact ⟨rfl,hm⟩
     case round=>
      obtain ⟨rfl,hm⟩:=hrel
      go_wp2_with fail
      go_ret
      exact ⟨rfl,hm⟩
set_option maxRecDepth 100000 in
theorem flat97 (w:World):Calls Tryz.prog 97 #[.slice none 0 0] w fun e w'=>e=.returned (.bool true)/\Mod N0 w w':=by
 go_enter Tryz.func97,Tryz.ntmps97
 go_wp2_with fail
 go_loopw [3] (fun i wx=>i=.int .i64 0/\Mod N0 w wx) (fun _ _=>0)
 case atStart=>exact ⟨rfl,Mod.refl _ w⟩
 case round=>
  obtain ⟨rfl,hm⟩:=hrel
  go_wp2_with fail
  obtain ⟨w2,hmk,hm2⟩:=make0 Tryz.underlying130 (by kernel_rfl) wr
  rw [hmk]
  have hm3:=hm.tr hm2
  generalize wr.heap.size=G
  clear hmk hm2 hm
  go_wp2_with fail
  go_loopw [6] (fun i wx=>i=.int .i64 0/\Mod N0 w wx) (fun _ _=>0)
  case atStart=>exact ⟨rfl,hm3⟩
  case round=>
   obtain ⟨rfl,hm⟩:=hrel
   clear hm3
   go_wp2_with fail
   go_loopw [9] (fun i wx=>i=.int .i64 0/\Mod N0 w wx) (fun _ _=>0)
   case atStart=>exact ⟨rfl,hm⟩
   case round=>
    obtain ⟨rfl,hm⟩:=hrel
    go_wp2_with fail
    go_loopw [11] (fun i wx=>i=.int .i64 0/\Mod N0 w wx) (fun _ _=>0)
    case atStart=>exact ⟨rfl,hm⟩
    case round=>
     obtain ⟨rfl,hm⟩:=hrel
     go_wp2_with fail
     go_loopw [14] (fun i wx=>i=.int .i64 0/\Mod N0 w wx) (fun _ _=>0)
     case atStart=>exact ⟨rfl,hm⟩
     case round=>
      obtain ⟨rfl,hm⟩:=hrel
      go_wp2_with fail
      go_ret
      exact ⟨rfl,hm⟩
set_option maxRecDepth 100000 in
theorem flat98 (w:World):Calls Tryz.prog 98 #[.slice none 0 0] w fun e w'=>e=.returned (.bool true)/\Mod N0 w w':=by
 go_enter Tryz.func98,Tryz.ntmps98
 go_wp2_with fail
 go_loopw [3] (fun i wx=>i=.int .i64 0/\Mod N0 w wx) (fun _ _=>0)
 case atStart=>exact ⟨rfl,Mod.refl _ w⟩
 case round=>
  obtain ⟨rfl,hm⟩:=hrel
  go_wp2_with fail
  obtain ⟨w2,hmk,hm2⟩:=make0 Tryz.underlying131 (by kernel_rfl) wr
  rw [hmk]
  have hm3:=hm.tr hm2
  generalize wr.heap.size=G
  clear hmk hm2 hm
  go_wp2_with fail
  go_loopw [6] (fun i wx=>i=.int .i64 0/\Mod N0 w wx) (fun _ _=>0)
  case atStart=>exact ⟨rfl,hm3⟩
  case round=>
   obtain ⟨rfl,hm⟩:=hrel
   clear hm3
   go_wp2_with fail
   go_loopw [9] (fun i wx=>i=.int .i64 0/\Mod N0 w wx) (fun _ _=>0)
   case atStart=>exact ⟨rfl,hm⟩
   case round=>
    obtain ⟨rfl,hm⟩:=hrel
    go_wp2_with fail
    go_loopw [11] (fun i wx=>i=.int .i64 0/\Mod N0 w wx) (fun _ _=>0)
    case atStart=>exact ⟨rfl,hm⟩
    case round=>
     obtain ⟨rfl,hm⟩:=hrel
     go_wp2_with fail
     go_loopw [14] (fun i wx=>i=.int .i64 0/\Mod N0 w wx) (fun _ _=>0)
     case atStart=>exact ⟨rfl,hm⟩
     case round=>
      obtain ⟨rfl,hm⟩:=hrel
      go_wp2_with fail
      go_ret
      exact ⟨rfl,hm⟩
set_option maxRecDepth 100000 in
theorem flat99 (w:World):Calls Tryz.prog 99 #[.slice none 0 0] w fun e w'=>e=.returned (.bool true)/\Mod N0 w w':=by
 go_enter Tryz.func99,Tryz.ntmps99
 go_wp2_with fail
 go_loopw [3] (fun i wx=>i=.int .i64 0/\Mod N0 w wx) (fun _ _=>0)
 case atStart=>exact ⟨rfl,Mod.refl _ w⟩
 case round=>
  obtain ⟨rfl,hm⟩:=hrel
  go_wp2_with fail
  obtain ⟨w2,hmk,hm2⟩:=make0 Tryz.underlying132 (by kernel_rfl) wr
  rw [hmk]
  have hm3:=hm.tr hm2
  generalize wr.heap.size=G
  clear hmk hm2 hm
  go_wp2_with fail
  go_loopw [6] (fun i wx=>i=.int .i64 0/\Mod N0 w wx) (fun _ _=>0)
  case atStart=>exact ⟨rfl,hm3⟩
  case round=>
   obtain ⟨rfl,hm⟩:=hrel
   clear hm3
   go_wp2_with fail
   go_loopw [9] (fun i wx=>i=.int .i64 0/\Mod N0 w wx) (fun _ _=>0)
   case atStart=>exact ⟨rfl,hm⟩
   case round=>
    obtain ⟨rfl,hm⟩:=hrel
    go_wp2_with fail
    go_loopw [11] (fun i wx=>i=.int .i64 0/\Mod N0 w wx) (fun _ _=>0)
    case atStart=>exact ⟨rfl,hm⟩
    case round=>
     obtain ⟨rfl,hm⟩:=hrel
     go_wp2_with fail
     go_loopw [14] (fun i wx=>i=.int .i64 0/\Mod N0 w wx) (fun _ _=>0)
     case atStart=>exact ⟨rfl,hm⟩
     case round=>
      obtain ⟨rfl,hm⟩:=hrel
      go_wp2_with fail
      go_ret
      exact ⟨rfl,hm⟩
end Go.Proofs.YtckcamlicgdklaaGreat
