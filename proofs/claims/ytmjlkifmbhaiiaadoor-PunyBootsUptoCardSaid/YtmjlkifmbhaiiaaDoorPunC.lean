/- Puny: Check, by the program. -/
import Derived.Test.YtmjlkifmbhaiiaaDoorPunN
set_option linter.unusedVariables false
set_option linter.unusedSimpArgs false
namespace Go.Proofs.YtmjlkifmbhaiiaaDoor
open Go.RowKit Go.Proofs.YtmjlkifmbhaiiaaDoorW.PrintWords Go.Proofs.YtmjlkifmbhaiiaaDoorW.PrintLast Go.Proofs.YtmjlkifmbhaiiaaDoorQ.Pb
theorem in_any (n lo hi : Int) (w : World) : Calls Tryd.prog 38 #[.int .i64 n,.int .i64 lo,.int .i64 hi] w fun e w' => e=.returned (.bool (decide (lo≤n∧n≤hi)))∧w=w':=by
 by_cases h1 : lo≤n
 ·by_cases h2 : n≤hi
  ·rw [decide_eq_true ⟨h1,h2⟩]
   go_enter Tryd.func38,Tryd.ntmps38
   go_wp2
   go_ret
   exact ⟨rfl,rfl⟩
  ·rw [decide_eq_false (fun e => h2 e.2)]
   go_enter Tryd.func38,Tryd.ntmps38
   go_wp2
   go_ret
   exact ⟨rfl,rfl⟩
 ·rw [decide_eq_false (fun e => h1 e.1)]
  go_enter Tryd.func38,Tryd.ntmps38
  go_wp2
  go_ret
  exact ⟨rfl,rfl⟩
set_option maxRecDepth 100000 in
set_option maxHeartbeats 8000000 in
theorem Check_any (p : Bt) (w : World) (hb : 0≤p.btw∧p.btw≤255) : Calls Tryd.prog 24 #[.agg (bootA p)] w fun e w' => e=.returned (.int .i64 (if okB p=true then 0 else 144))∧Below w.heap.size w w':=by
 have HI:=Lib.hid (fun n lo hi W => in_any n lo hi W)
 have HG:=Lib.hid (fun W => puny_boot_digit.calls 2 p.base p.least p.most p.skew p.damp p.bias p.first p.btw p.btw _ W (digit_is p 2 (by omega) p.btw hb.1 hb.2))
 have hok : okB p=decide (3≤p.base∧p.base≤36∧0≤p.least∧p.least≤p.most∧1≤p.most∧p.most≤p.base - 2∧1≤p.skew∧p.skew≤10000∧2≤p.damp∧p.damp≤10000∧0≤p.bias∧p.bias≤10000∧1≤p.first∧p.first≤1114111∧33≤p.btw∧p.btw≤126∧p.btw < p.first∧dgt p p.btw < 0):=rfl
 have hmx : mx p.least 1=if p.least < 1 then 1 else p.least:=rfl
 have hbel : Below w.heap.size w (w.alloc (.cells (bootA p) 48)):=below_one _ _
 have hcel:=bootCells (Blk.new w 48 (bootA p))
 by_cases c1 : 3≤p.base∧p.base≤36
 case neg =>
  have d1:=decide_eq_false c1
  have hF : okB p=false:=by rw [hok];exact decide_eq_false (fun e => c1 (by omega))
  rw [hF]
  clear hF hok
  go_enter Tryd.func24,Tryd.ntmps24
  go_wp2_with (first
   | (go_at_call 38;(with_reducible refine (HI.out _ _ _ _).mono ?_);rintro e w1 ⟨rfl,rfl⟩;simp only [d1]))
  go_ret
  exact ⟨by simp,hbel⟩
 case pos =>
  by_cases c2 : 0≤p.least∧p.least≤p.base - 2
  case neg =>
   have d1:=decide_eq_true c1
   have d2:=decide_eq_false c2
   have hF : okB p=false:=by rw [hok];exact decide_eq_false (fun e => c2 (by omega))
   rw [hF]
   clear hF hok
   go_enter Tryd.func24,Tryd.ntmps24
   go_wp2_with (first
    | (go_at_call 38;(with_reducible refine (HI.out _ _ _ _).mono ?_);rintro e w1 ⟨rfl,rfl⟩;simp only [d1,d2]))
   go_ret
   exact ⟨by simp,hbel⟩
  case pos =>
   by_cases c3 : mx p.least 1≤p.most∧p.most≤p.base - 2
   case neg =>
    have d1:=decide_eq_true c1
    have d2:=decide_eq_true c2
    have d3:=decide_eq_false c3
    have hF : okB p=false:=by rw [hok];exact decide_eq_false (fun e => c3 (by omega))
    rw [hF]
    clear hF hok
    go_enter Tryd.func24,Tryd.ntmps24
    go_wp2_with (first
     | (go_at_call 38;(with_reducible refine (HI.out _ _ _ _).mono ?_);rintro e w1 ⟨rfl,rfl⟩;simp only [d1,d2,d3]))
    go_ret
    exact ⟨by simp,hbel⟩
   case pos =>
    by_cases c4 : 1≤p.skew∧p.skew≤10000
    case neg =>
     have d1:=decide_eq_true c1
     have d2:=decide_eq_true c2
     have d3:=decide_eq_true c3
     have d4:=decide_eq_false c4
     have hF : okB p=false:=by rw [hok];exact decide_eq_false (fun e => c4 (by omega))
     rw [hF]
     clear hF hok
     go_enter Tryd.func24,Tryd.ntmps24
     go_wp2_with (first
      | (go_at_call 38;(with_reducible refine (HI.out _ _ _ _).mono ?_);rintro e w1 ⟨rfl,rfl⟩;simp only [d1,d2,d3,d4]))
     go_ret
     exact ⟨by simp,hbel⟩
    case pos =>
     by_cases c5 : 2≤p.damp∧p.damp≤10000
     case neg =>
      have d1:=decide_eq_true c1
      have d2:=decide_eq_true c2
      have d3:=decide_eq_true c3
      have d4:=decide_eq_true c4
      have d5:=decide_eq_false c5
      have hF : okB p=false:=by rw [hok];exact decide_eq_false (fun e => c5 (by omega))
      rw [hF]
      clear hF hok
      go_enter Tryd.func24,Tryd.ntmps24
      go_wp2_with (first
       | (go_at_call 38;(with_reducible refine (HI.out _ _ _ _).mono ?_);rintro e w1 ⟨rfl,rfl⟩;simp only [d1,d2,d3,d4,d5]))
      go_ret
      exact ⟨by simp,hbel⟩
     case pos =>
      by_cases c6 : 0≤p.bias∧p.bias≤10000
      case neg =>
       have d1:=decide_eq_true c1
       have d2:=decide_eq_true c2
       have d3:=decide_eq_true c3
       have d4:=decide_eq_true c4
       have d5:=decide_eq_true c5
       have d6:=decide_eq_false c6
       have hF : okB p=false:=by rw [hok];exact decide_eq_false (fun e => c6 (by omega))
       rw [hF]
       clear hF hok
       go_enter Tryd.func24,Tryd.ntmps24
       go_wp2_with (first
        | (go_at_call 38;(with_reducible refine (HI.out _ _ _ _).mono ?_);rintro e w1 ⟨rfl,rfl⟩;simp only [d1,d2,d3,d4,d5,d6]))
       go_ret
       exact ⟨by simp,hbel⟩
      case pos =>
       by_cases c7 : 1≤p.first∧p.first≤1114111
       case neg =>
        have d1:=decide_eq_true c1
        have d2:=decide_eq_true c2
        have d3:=decide_eq_true c3
        have d4:=decide_eq_true c4
        have d5:=decide_eq_true c5
        have d6:=decide_eq_true c6
        have d7:=decide_eq_false c7
        have hF : okB p=false:=by rw [hok];exact decide_eq_false (fun e => c7 (by omega))
        rw [hF]
        clear hF hok
        go_enter Tryd.func24,Tryd.ntmps24
        go_wp2_with (first
         | (go_at_call 38;(with_reducible refine (HI.out _ _ _ _).mono ?_);rintro e w1 ⟨rfl,rfl⟩;simp only [d1,d2,d3,d4,d5,d6,d7]))
        go_ret
        exact ⟨by simp,hbel⟩
       case pos =>
        by_cases c8 : 33≤p.btw∧p.btw≤126
        case neg =>
         have d1:=decide_eq_true c1
         have d2:=decide_eq_true c2
         have d3:=decide_eq_true c3
         have d4:=decide_eq_true c4
         have d5:=decide_eq_true c5
         have d6:=decide_eq_true c6
         have d7:=decide_eq_true c7
         have d8:=decide_eq_false c8
         have hF : okB p=false:=by rw [hok];exact decide_eq_false (fun e => c8 (by omega))
         rw [hF]
         clear hF hok
         go_enter Tryd.func24,Tryd.ntmps24
         go_wp2_with (first
          | (go_at_call 38;(with_reducible refine (HI.out _ _ _ _).mono ?_);rintro e w1 ⟨rfl,rfl⟩;simp only [d1,d2,d3,d4,d5,d6,d7,d8]))
         go_ret
         exact ⟨by simp,hbel⟩
        case pos =>
         have d1:=decide_eq_true c1
         have d2:=decide_eq_true c2
         have d3:=decide_eq_true c3
         have d4:=decide_eq_true c4
         have d5:=decide_eq_true c5
         have d6:=decide_eq_true c6
         have d7:=decide_eq_true c7
         have d8:=decide_eq_true c8
         by_cases c9 : p.btw < p.first
         case neg =>
          have hF : okB p=false:=by rw [hok];exact decide_eq_false (fun e => c9 (by omega))
          rw [hF]
          clear hF hok
          go_enter Tryd.func24,Tryd.ntmps24
          go_wp2_with (first
           | (go_at_call 38;(with_reducible refine (HI.out _ _ _ _).mono ?_);rintro e w1 ⟨rfl,rfl⟩;simp only [d1,d2,d3,d4,d5,d6,d7,d8]))
          go_ret
          exact ⟨by simp,hbel⟩
         case pos =>
          obtain ⟨g,hg⟩ : ∃ g,dgt p p.btw=g:=⟨_,rfl⟩
          rw [hg] at HG hok
          have hF : okB p=decide (g < 0):=by rw [hok];exact decide_eq_decide.2 ⟨fun e => by omega,fun e => by omega⟩
          by_cases c10 : g < 0
          case pos =>
           rw [decide_eq_true c10] at hF
           rw [hF]
           clear hF hok hg
           go_enter Tryd.func24,Tryd.ntmps24
           go_wp2_with (first
            | (go_at_call 38;(with_reducible refine (HI.out _ _ _ _).mono ?_);rintro e w1 ⟨rfl,rfl⟩;simp only [d1,d2,d3,d4,d5,d6,d7,d8])
            | (go_at_call 39;(with_reducible refine (HG.out _).mono ?_);rintro e w2 ⟨rfl,hb2⟩;have hbb:=below_after hbel hb2))
           go_ret
           exact ⟨by simp,hbb⟩
          case neg =>
           rw [decide_eq_false c10] at hF
           rw [hF]
           clear hF hok hg
           go_enter Tryd.func24,Tryd.ntmps24
           go_wp2_with (first
            | (go_at_call 38;(with_reducible refine (HI.out _ _ _ _).mono ?_);rintro e w1 ⟨rfl,rfl⟩;simp only [d1,d2,d3,d4,d5,d6,d7,d8])
            | (go_at_call 39;(with_reducible refine (HG.out _).mono ?_);rintro e w2 ⟨rfl,hb2⟩;have hbb:=below_after hbel hb2))
           go_ret
           exact ⟨by simp,hbb⟩
end Go.Proofs.YtmjlkifmbhaiiaaDoor
