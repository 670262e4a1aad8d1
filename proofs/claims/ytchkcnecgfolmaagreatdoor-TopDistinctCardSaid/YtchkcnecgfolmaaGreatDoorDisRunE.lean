/-
  What the evaluator leans on is right for this program. No condition of ours.
-/
import Derived.Test.YtchkcnecgfolmaaGreatDoorDisRunD
import Derived.Test.YtchkcnecgfolmaaGreatDoorProg
import Derived.KernelRfl
import Derived.Test.YtchkcnecgfolmaaGreatDoorDisRunC
import Derived.Shelf.Strings.OnBuilder
import Derived.Shelf.SlIter.Sorted
import Derived.Shelf.SlIterI.Collect
import Derived.Shelf.SortM.Plain
import Derived.Shelf.SortM.SortNone
import Derived.WalkKit
import Derived.WalkSpells
import Derived.WalkLawsBesides
namespace Go.Proofs.YtchkcnecgfolmaaGreatDoor.Ev
open Go Go.Proofs
set_option linter.unusedVariables false
section
noncomputable def fnT : Tr Func := (.nd (some Tryz.f0) (.nd (some Tryz.f1) (.nd (some Tryz.f3) (.nd (some Tryz.f7) (.nd (some Tryz.f15) (.nd (some Tryz.f31) (.nd (some Tryz.f63) (.nd (some Tryz.f127) (.nd (some Tryz.f255) (.nd (some Tryz.f511) .lf .lf) .lf) (.nd (some Tryz.f383) (.nd (some Tryz.f639) .lf .lf) .lf)) (.nd (some Tryz.f191) (.nd (some Tryz.f319) (.nd (some Tryz.f575) .lf .lf) .lf) (.nd (some Tryz.f447) .lf .lf))) (.nd (some Tryz.f95) (.nd (some Tryz.f159) (.nd (some Tryz.f287) (.nd (some Tryz.f543) .lf .lf) .lf) (.nd (some Tryz.f415) .lf .lf)) (.nd (some Tryz.f223) (.nd (some Tryz.f351) (.nd (some Tryz.f607) .lf .lf) .lf) (.nd (some Tryz.f479) .lf .lf)))) (.nd (some Tryz.f47) (.nd (some Tryz.f79) (.nd (some Tryz.f143) (.nd (some Tryz.f271) (.nd (some Tryz.f527) .lf .lf) .lf) (.nd (some Tryz.f399) (.nd (some Tryz.f655) .lf .lf) .lf)) (.nd (some Tryz.f207) (.nd (some Tryz.f335) (.nd (some Tryz.f591) .lf .lf) .lf) (.nd (some Tryz.f463) .lf .lf))) (.nd (some Tryz.f111) (.nd (some Tryz.f175) (.nd (some Tryz.f303) (.nd (some Tryz.f559) .lf .lf) .lf) (.nd (some Tryz.f431) .lf .lf)) (.nd (some Tryz.f239) (.nd (some Tryz.f367) (.nd (some Tryz.f623) .lf .lf) .lf) (.nd (some Tryz.f495) .lf .lf))))) (.nd (some Tryz.f23) (.nd (some Tryz.f39) (.nd (some Tryz.f71) (.nd (some Tryz.f135) (.nd (some Tryz.f263) (.nd (some Tryz.f519) .lf .lf) .lf) (.nd (some Tryz.f391) (.nd (some Tryz.f647) .lf .lf) .lf)) (.nd (some Tryz.f199) (.nd (some Tryz.f327) (.nd (some Tryz.f583) .lf .lf) .lf) (.nd (some Tryz.f455) .lf .lf))) (.nd (some Tryz.f103) (.nd (some Tryz.f167) (.nd (some Tryz.f295) (.nd (some Tryz.f551) .lf .lf) .lf) (.nd (some Tryz.f423) .lf .lf)) (.nd (some Tryz.f231) (.nd (some Tryz.f359) (.nd (some Tryz.f615) .lf .lf) .lf) (.nd (some Tryz.f487) .lf .lf)))) (.nd (some Tryz.f55) (.nd (some Tryz.f87) (.nd (some Tryz.f151) (.nd (some Tryz.f279) (.nd (some Tryz.f535) .lf .lf) .lf) (.nd (some Tryz.f407) (.nd (some Tryz.f663) .lf .lf) .lf)) (.nd (some Tryz.f215) (.nd (some Tryz.f343) (.nd (some Tryz.f599) .lf .lf) .lf) (.nd (some Tryz.f471) .lf .lf))) (.nd (some Tryz.f119) (.nd (some Tryz.f183) (.nd (some Tryz.f311) (.nd (some Tryz.f567) .lf .lf) .lf) (.nd (some Tryz.f439) .lf .lf)) (.nd (some Tryz.f247) (.nd (some Tryz.f375) (.nd (some Tryz.f631) .lf .lf) .lf) (.nd (some Tryz.f503) .lf .lf)))))) (.nd (some Tryz.f11) (.nd (some Tryz.f19) (.nd (some Tryz.f35) (.nd (some Tryz.f67) (.nd (some Tryz.f131) (.nd (some Tryz.f259) (.nd (some Tryz.f515) .lf .lf) .lf) (.nd (some Tryz.f387) (.nd (some Tryz.f643) .lf .lf) .lf)) (.nd (some Tryz.f195) (.nd (some Tryz.f323) (.nd (some Tryz.f579) .lf .lf) .lf) (.nd (some Tryz.f451) .lf .lf))) (.nd (some Tryz.f99) (.nd (some Tryz.f163) (.nd (some Tryz.f291) (.nd (some Tryz.f547) .lf .lf) .lf) (.nd (some Tryz.f419) .lf .lf)) (.nd (some Tryz.f227) (.nd (some Tryz.f355) (.nd (some Tryz.f611) .lf .lf) .lf) (.nd (some Tryz.f483) .lf .lf)))) (.nd (some Tryz.f51) (.nd (some Tryz.f83) (.nd (some Tryz.f147) (.nd (some Tryz.f275) (.nd (some Tryz.f531) .lf .lf) .lf) (.nd (some Tryz.f403) (.nd (some Tryz.f659) .lf .lf) .lf)) (.nd (some Tryz.f211) (.nd (some Tryz.f339) (.nd (some Tryz.f595) .lf .lf) .lf) (.nd (some Tryz.f467) .lf .lf))) (.nd (some Tryz.f115) (.nd (some Tryz.f179) (.nd (some Tryz.f307) (.nd (some Tryz.f563) .lf .lf) .lf) (.nd (some Tryz.f435) .lf .lf)) (.nd (some Tryz.f243) (.nd (some Tryz.f371) (.nd (some Tryz.f627) .lf .lf) .lf) (.nd (some Tryz.f499) .lf .lf))))) (.nd (some Tryz.f27) (.nd (some Tryz.f43) (.nd (some Tryz.f75) (.nd (some Tryz.f139) (.nd (some Tryz.f267) (.nd (some Tryz.f523) .lf .lf) .lf) (.nd (some Tryz.f395) (.nd (some Tryz.f651) .lf .lf) .lf)) (.nd (some Tryz.f203) (.nd (some Tryz.f331) (.nd (some Tryz.f587) .lf .lf) .lf) (.nd (some Tryz.f459) .lf .lf))) (.nd (some Tryz.f107) (.nd (some Tryz.f171) (.nd (some Tryz.f299) (.nd (some Tryz.f555) .lf .lf) .lf) (.nd (some Tryz.f427) .lf .lf)) (.nd (some Tryz.f235) (.nd (some Tryz.f363) (.nd (some Tryz.f619) .lf .lf) .lf) (.nd (some Tryz.f491) .lf .lf)))) (.nd (some Tryz.f59) (.nd (some Tryz.f91) (.nd (some Tryz.f155) (.nd (some Tryz.f283) (.nd (some Tryz.f539) .lf .lf) .lf) (.nd (some Tryz.f411) (.nd (some Tryz.f667) .lf .lf) .lf)) (.nd (some Tryz.f219) (.nd (some Tryz.f347) (.nd (some Tryz.f603) .lf .lf) .lf) (.nd (some Tryz.f475) .lf .lf))) (.nd (some Tryz.f123) (.nd (some Tryz.f187) (.nd (some Tryz.f315) (.nd (some Tryz.f571) .lf .lf) .lf) (.nd (some Tryz.f443) .lf .lf)) (.nd (some Tryz.f251) (.nd (some Tryz.f379) (.nd (some Tryz.f635) .lf .lf) .lf) (.nd (some Tryz.f507) .lf .lf))))))) (.nd (some Tryz.f5) (.nd (some Tryz.f9) (.nd (some Tryz.f17) (.nd (some Tryz.f33) (.nd (some Tryz.f65) (.nd (some Tryz.f129) (.nd (some Tryz.f257) (.nd (some Tryz.f513) .lf .lf) .lf) (.nd (some Tryz.f385) (.nd (some Tryz.f641) .lf .lf) .lf)) (.nd (some Tryz.f193) (.nd (some Tryz.f321) (.nd (some Tryz.f577) .lf .lf) .lf) (.nd (some Tryz.f449) .lf .lf))) (.nd (some Tryz.f97) (.nd (some Tryz.f161) (.nd (some Tryz.f289) (.nd (some Tryz.f545) .lf .lf) .lf) (.nd (some Tryz.f417) .lf .lf)) (.nd (some Tryz.f225) (.nd (some Tryz.f353) (.nd (some Tryz.f609) .lf .lf) .lf) (.nd (some Tryz.f481) .lf .lf)))) (.nd (some Tryz.f49) (.nd (some Tryz.f81) (.nd (some Tryz.f145) (.nd (some Tryz.f273) (.nd (some Tryz.f529) .lf .lf) .lf) (.nd (some Tryz.f401) (.nd (some Tryz.f657) .lf .lf) .lf)) (.nd (some Tryz.f209) (.nd (some Tryz.f337) (.nd (some Tryz.f593) .lf .lf) .lf) (.nd (some Tryz.f465) .lf .lf))) (.nd (some Tryz.f113) (.nd (some Tryz.f177) (.nd (some Tryz.f305) (.nd (some Tryz.f561) .lf .lf) .lf) (.nd (some Tryz.f433) .lf .lf)) (.nd (some Tryz.f241) (.nd (some Tryz.f369) (.nd (some Tryz.f625) .lf .lf) .lf) (.nd (some Tryz.f497) .lf .lf))))) (.nd (some Tryz.f25) (.nd (some Tryz.f41) (.nd (some Tryz.f73) (.nd (some Tryz.f137) (.nd (some Tryz.f265) (.nd (some Tryz.f521) .lf .lf) .lf) (.nd (some Tryz.f393) (.nd (some Tryz.f649) .lf .lf) .lf)) (.nd (some Tryz.f201) (.nd (some Tryz.f329) (.nd (some Tryz.f585) .lf .lf) .lf) (.nd (some Tryz.f457) .lf .lf))) (.nd (some Tryz.f105) (.nd (some Tryz.f169) (.nd (some Tryz.f297) (.nd (some Tryz.f553) .lf .lf) .lf) (.nd (some Tryz.f425) .lf .lf)) (.nd (some Tryz.f233) (.nd (some Tryz.f361) (.nd (some Tryz.f617) .lf .lf) .lf) (.nd (some Tryz.f489) .lf .lf)))) (.nd (some Tryz.f57) (.nd (some Tryz.f89) (.nd (some Tryz.f153) (.nd (some Tryz.f281) (.nd (some Tryz.f537) .lf .lf) .lf) (.nd (some Tryz.f409) (.nd (some Tryz.f665) .lf .lf) .lf)) (.nd (some Tryz.f217) (.nd (some Tryz.f345) (.nd (some Tryz.f601) .lf .lf) .lf) (.nd (some Tryz.f473) .lf .lf))) (.nd (some Tryz.f121) (.nd (some Tryz.f185) (.nd (some Tryz.f313) (.nd (some Tryz.f569) .lf .lf) .lf) (.nd (some Tryz.f441) .lf .lf)) (.nd (some Tryz.f249) (.nd (some Tryz.f377) (.nd (some Tryz.f633) .lf .lf) .lf) (.nd (some Tryz.f505) .lf .lf)))))) (.nd (some Tryz.f13) (.nd (some Tryz.f21) (.nd (some Tryz.f37) (.nd (some Tryz.f69) (.nd (some Tryz.f133) (.nd (some Tryz.f261) (.nd (some Tryz.f517) .lf .lf) .lf) (.nd (some Tryz.f389) (.nd (some Tryz.f645) .lf .lf) .lf)) (.nd (some Tryz.f197) (.nd (some Tryz.f325) (.nd (some Tryz.f581) .lf .lf) .lf) (.nd (some Tryz.f453) .lf .lf))) (.nd (some Tryz.f101) (.nd (some Tryz.f165) (.nd (some Tryz.f293) (.nd (some Tryz.f549) .lf .lf) .lf) (.nd (some Tryz.f421) .lf .lf)) (.nd (some Tryz.f229) (.nd (some Tryz.f357) (.nd (some Tryz.f613) .lf .lf) .lf) (.nd (some Tryz.f485) .lf .lf)))) (.nd (some Tryz.f53) (.nd (some Tryz.f85) (.nd (some Tryz.f149) (.nd (some Tryz.f277) (.nd (some Tryz.f533) .lf .lf) .lf) (.nd (some Tryz.f405) (.nd (some Tryz.f661) .lf .lf) .lf)) (.nd (some Tryz.f213) (.nd (some Tryz.f341) (.nd (some Tryz.f597) .lf .lf) .lf) (.nd (some Tryz.f469) .lf .lf))) (.nd (some Tryz.f117) (.nd (some Tryz.f181) (.nd (some Tryz.f309) (.nd (some Tryz.f565) .lf .lf) .lf) (.nd (some Tryz.f437) .lf .lf)) (.nd (some Tryz.f245) (.nd (some Tryz.f373) (.nd (some Tryz.f629) .lf .lf) .lf) (.nd (some Tryz.f501) .lf .lf))))) (.nd (some Tryz.f29) (.nd (some Tryz.f45) (.nd (some Tryz.f77) (.nd (some Tryz.f141) (.nd (some Tryz.f269) (.nd (some Tryz.f525) .lf .lf) .lf) (.nd (some Tryz.f397) (.nd (some Tryz.f653) .lf .lf) .lf)) (.nd (some Tryz.f205) (.nd (some Tryz.f333) (.nd (some Tryz.f589) .lf .lf) .lf) (.nd (some Tryz.f461) .lf .lf))) (.nd (some Tryz.f109) (.nd (some Tryz.f173) (.nd (some Tryz.f301) (.nd (some Tryz.f557) .lf .lf) .lf) (.nd (some Tryz.f429) .lf .lf)) (.nd (some Tryz.f237) (.nd (some Tryz.f365) (.nd (some Tryz.f621) .lf .lf) .lf) (.nd (some Tryz.f493) .lf .lf)))) (.nd (some Tryz.f61) (.nd (some Tryz.f93) (.nd (some Tryz.f157) (.nd (some Tryz.f285) (.nd (some Tryz.f541) .lf .lf) .lf) (.nd (some Tryz.f413) .lf .lf)) (.nd (some Tryz.f221) (.nd (some Tryz.f349) (.nd (some Tryz.f605) .lf .lf) .lf) (.nd (some Tryz.f477) .lf .lf))) (.nd (some Tryz.f125) (.nd (some Tryz.f189) (.nd (some Tryz.f317) (.nd (some Tryz.f573) .lf .lf) .lf) (.nd (some Tryz.f445) .lf .lf)) (.nd (some Tryz.f253) (.nd (some Tryz.f381) (.nd (some Tryz.f637) .lf .lf) .lf) (.nd (some Tryz.f509) .lf .lf)))))))) (.nd (some Tryz.f2) (.nd (some Tryz.f4) (.nd (some Tryz.f8) (.nd (some Tryz.f16) (.nd (some Tryz.f32) (.nd (some Tryz.f64) (.nd (some Tryz.f128) (.nd (some Tryz.f256) (.nd (some Tryz.f512) .lf .lf) .lf) (.nd (some Tryz.f384) (.nd (some Tryz.f640) .lf .lf) .lf)) (.nd (some Tryz.f192) (.nd (some Tryz.f320) (.nd (some Tryz.f576) .lf .lf) .lf) (.nd (some Tryz.f448) .lf .lf))) (.nd (some Tryz.f96) (.nd (some Tryz.f160) (.nd (some Tryz.f288) (.nd (some Tryz.f544) .lf .lf) .lf) (.nd (some Tryz.f416) .lf .lf)) (.nd (some Tryz.f224) (.nd (some Tryz.f352) (.nd (some Tryz.f608) .lf .lf) .lf) (.nd (some Tryz.f480) .lf .lf)))) (.nd (some Tryz.f48) (.nd (some Tryz.f80) (.nd (some Tryz.f144) (.nd (some Tryz.f272) (.nd (some Tryz.f528) .lf .lf) .lf) (.nd (some Tryz.f400) (.nd (some Tryz.f656) .lf .lf) .lf)) (.nd (some Tryz.f208) (.nd (some Tryz.f336) (.nd (some Tryz.f592) .lf .lf) .lf) (.nd (some Tryz.f464) .lf .lf))) (.nd (some Tryz.f112) (.nd (some Tryz.f176) (.nd (some Tryz.f304) (.nd (some Tryz.f560) .lf .lf) .lf) (.nd (some Tryz.f432) .lf .lf)) (.nd (some Tryz.f240) (.nd (some Tryz.f368) (.nd (some Tryz.f624) .lf .lf) .lf) (.nd (some Tryz.f496) .lf .lf))))) (.nd (some Tryz.f24) (.nd (some Tryz.f40) (.nd (some Tryz.f72) (.nd (some Tryz.f136) (.nd (some Tryz.f264) (.nd (some Tryz.f520) .lf .lf) .lf) (.nd (some Tryz.f392) (.nd (some Tryz.f648) .lf .lf) .lf)) (.nd (some Tryz.f200) (.nd (some Tryz.f328) (.nd (some Tryz.f584) .lf .lf) .lf) (.nd (some Tryz.f456) .lf .lf))) (.nd (some Tryz.f104) (.nd (some Tryz.f168) (.nd (some Tryz.f296) (.nd (some Tryz.f552) .lf .lf) .lf) (.nd (some Tryz.f424) .lf .lf)) (.nd (some Tryz.f232) (.nd (some Tryz.f360) (.nd (some Tryz.f616) .lf .lf) .lf) (.nd (some Tryz.f488) .lf .lf)))) (.nd (some Tryz.f56) (.nd (some Tryz.f88) (.nd (some Tryz.f152) (.nd (some Tryz.f280) (.nd (some Tryz.f536) .lf .lf) .lf) (.nd (some Tryz.f408) (.nd (some Tryz.f664) .lf .lf) .lf)) (.nd (some Tryz.f216) (.nd (some Tryz.f344) (.nd (some Tryz.f600) .lf .lf) .lf) (.nd (some Tryz.f472) .lf .lf))) (.nd (some Tryz.f120) (.nd (some Tryz.f184) (.nd (some Tryz.f312) (.nd (some Tryz.f568) .lf .lf) .lf) (.nd (some Tryz.f440) .lf .lf)) (.nd (some Tryz.f248) (.nd (some Tryz.f376) (.nd (some Tryz.f632) .lf .lf) .lf) (.nd (some Tryz.f504) .lf .lf)))))) (.nd (some Tryz.f12) (.nd (some Tryz.f20) (.nd (some Tryz.f36) (.nd (some Tryz.f68) (.nd (some Tryz.f132) (.nd (some Tryz.f260) (.nd (some Tryz.f516) .lf .lf) .lf) (.nd (some Tryz.f388) (.nd (some Tryz.f644) .lf .lf) .lf)) (.nd (some Tryz.f196) (.nd (some Tryz.f324) (.nd (some Tryz.f580) .lf .lf) .lf) (.nd (some Tryz.f452) .lf .lf))) (.nd (some Tryz.f100) (.nd (some Tryz.f164) (.nd (some Tryz.f292) (.nd (some Tryz.f548) .lf .lf) .lf) (.nd (some Tryz.f420) .lf .lf)) (.nd (some Tryz.f228) (.nd (some Tryz.f356) (.nd (some Tryz.f612) .lf .lf) .lf) (.nd (some Tryz.f484) .lf .lf)))) (.nd (some Tryz.f52) (.nd (some Tryz.f84) (.nd (some Tryz.f148) (.nd (some Tryz.f276) (.nd (some Tryz.f532) .lf .lf) .lf) (.nd (some Tryz.f404) (.nd (some Tryz.f660) .lf .lf) .lf)) (.nd (some Tryz.f212) (.nd (some Tryz.f340) (.nd (some Tryz.f596) .lf .lf) .lf) (.nd (some Tryz.f468) .lf .lf))) (.nd (some Tryz.f116) (.nd (some Tryz.f180) (.nd (some Tryz.f308) (.nd (some Tryz.f564) .lf .lf) .lf) (.nd (some Tryz.f436) .lf .lf)) (.nd (some Tryz.f244) (.nd (some Tryz.f372) (.nd (some Tryz.f628) .lf .lf) .lf) (.nd (some Tryz.f500) .lf .lf))))) (.nd (some Tryz.f28) (.nd (some Tryz.f44) (.nd (some Tryz.f76) (.nd (some Tryz.f140) (.nd (some Tryz.f268) (.nd (some Tryz.f524) .lf .lf) .lf) (.nd (some Tryz.f396) (.nd (some Tryz.f652) .lf .lf) .lf)) (.nd (some Tryz.f204) (.nd (some Tryz.f332) (.nd (some Tryz.f588) .lf .lf) .lf) (.nd (some Tryz.f460) .lf .lf))) (.nd (some Tryz.f108) (.nd (some Tryz.f172) (.nd (some Tryz.f300) (.nd (some Tryz.f556) .lf .lf) .lf) (.nd (some Tryz.f428) .lf .lf)) (.nd (some Tryz.f236) (.nd (some Tryz.f364) (.nd (some Tryz.f620) .lf .lf) .lf) (.nd (some Tryz.f492) .lf .lf)))) (.nd (some Tryz.f60) (.nd (some Tryz.f92) (.nd (some Tryz.f156) (.nd (some Tryz.f284) (.nd (some Tryz.f540) .lf .lf) .lf) (.nd (some Tryz.f412) (.nd (some Tryz.f668) .lf .lf) .lf)) (.nd (some Tryz.f220) (.nd (some Tryz.f348) (.nd (some Tryz.f604) .lf .lf) .lf) (.nd (some Tryz.f476) .lf .lf))) (.nd (some Tryz.f124) (.nd (some Tryz.f188) (.nd (some Tryz.f316) (.nd (some Tryz.f572) .lf .lf) .lf) (.nd (some Tryz.f444) .lf .lf)) (.nd (some Tryz.f252) (.nd (some Tryz.f380) (.nd (some Tryz.f636) .lf .lf) .lf) (.nd (some Tryz.f508) .lf .lf))))))) (.nd (some Tryz.f6) (.nd (some Tryz.f10) (.nd (some Tryz.f18) (.nd (some Tryz.f34) (.nd (some Tryz.f66) (.nd (some Tryz.f130) (.nd (some Tryz.f258) (.nd (some Tryz.f514) .lf .lf) .lf) (.nd (some Tryz.f386) (.nd (some Tryz.f642) .lf .lf) .lf)) (.nd (some Tryz.f194) (.nd (some Tryz.f322) (.nd (some Tryz.f578) .lf .lf) .lf) (.nd (some Tryz.f450) .lf .lf))) (.nd (some Tryz.f98) (.nd (some Tryz.f162) (.nd (some Tryz.f290) (.nd (some Tryz.f546) .lf .lf) .lf) (.nd (some Tryz.f418) .lf .lf)) (.nd (some Tryz.f226) (.nd (some Tryz.f354) (.nd (some Tryz.f610) .lf .lf) .lf) (.nd (some Tryz.f482) .lf .lf)))) (.nd (some Tryz.f50) (.nd (some Tryz.f82) (.nd (some Tryz.f146) (.nd (some Tryz.f274) (.nd (some Tryz.f530) .lf .lf) .lf) (.nd (some Tryz.f402) (.nd (some Tryz.f658) .lf .lf) .lf)) (.nd (some Tryz.f210) (.nd (some Tryz.f338) (.nd (some Tryz.f594) .lf .lf) .lf) (.nd (some Tryz.f466) .lf .lf))) (.nd (some Tryz.f114) (.nd (some Tryz.f178) (.nd (some Tryz.f306) (.nd (some Tryz.f562) .lf .lf) .lf) (.nd (some Tryz.f434) .lf .lf)) (.nd (some Tryz.f242) (.nd (some Tryz.f370) (.nd (some Tryz.f626) .lf .lf) .lf) (.nd (some Tryz.f498) .lf .lf))))) (.nd (some Tryz.f26) (.nd (some Tryz.f42) (.nd (some Tryz.f74) (.nd (some Tryz.f138) (.nd (some Tryz.f266) (.nd (some Tryz.f522) .lf .lf) .lf) (.nd (some Tryz.f394) (.nd (some Tryz.f650) .lf .lf) .lf)) (.nd (some Tryz.f202) (.nd (some Tryz.f330) (.nd (some Tryz.f586) .lf .lf) .lf) (.nd (some Tryz.f458) .lf .lf))) (.nd (some Tryz.f106) (.nd (some Tryz.f170) (.nd (some Tryz.f298) (.nd (some Tryz.f554) .lf .lf) .lf) (.nd (some Tryz.f426) .lf .lf)) (.nd (some Tryz.f234) (.nd (some Tryz.f362) (.nd (some Tryz.f618) .lf .lf) .lf) (.nd (some Tryz.f490) .lf .lf)))) (.nd (some Tryz.f58) (.nd (some Tryz.f90) (.nd (some Tryz.f154) (.nd (some Tryz.f282) (.nd (some Tryz.f538) .lf .lf) .lf) (.nd (some Tryz.f410) (.nd (some Tryz.f666) .lf .lf) .lf)) (.nd (some Tryz.f218) (.nd (some Tryz.f346) (.nd (some Tryz.f602) .lf .lf) .lf) (.nd (some Tryz.f474) .lf .lf))) (.nd (some Tryz.f122) (.nd (some Tryz.f186) (.nd (some Tryz.f314) (.nd (some Tryz.f570) .lf .lf) .lf) (.nd (some Tryz.f442) .lf .lf)) (.nd (some Tryz.f250) (.nd (some Tryz.f378) (.nd (some Tryz.f634) .lf .lf) .lf) (.nd (some Tryz.f506) .lf .lf)))))) (.nd (some Tryz.f14) (.nd (some Tryz.f22) (.nd (some Tryz.f38) (.nd (some Tryz.f70) (.nd (some Tryz.f134) (.nd (some Tryz.f262) (.nd (some Tryz.f518) .lf .lf) .lf) (.nd (some Tryz.f390) (.nd (some Tryz.f646) .lf .lf) .lf)) (.nd (some Tryz.f198) (.nd (some Tryz.f326) (.nd (some Tryz.f582) .lf .lf) .lf) (.nd (some Tryz.f454) .lf .lf))) (.nd (some Tryz.f102) (.nd (some Tryz.f166) (.nd (some Tryz.f294) (.nd (some Tryz.f550) .lf .lf) .lf) (.nd (some Tryz.f422) .lf .lf)) (.nd (some Tryz.f230) (.nd (some Tryz.f358) (.nd (some Tryz.f614) .lf .lf) .lf) (.nd (some Tryz.f486) .lf .lf)))) (.nd (some Tryz.f54) (.nd (some Tryz.f86) (.nd (some Tryz.f150) (.nd (some Tryz.f278) (.nd (some Tryz.f534) .lf .lf) .lf) (.nd (some Tryz.f406) (.nd (some Tryz.f662) .lf .lf) .lf)) (.nd (some Tryz.f214) (.nd (some Tryz.f342) (.nd (some Tryz.f598) .lf .lf) .lf) (.nd (some Tryz.f470) .lf .lf))) (.nd (some Tryz.f118) (.nd (some Tryz.f182) (.nd (some Tryz.f310) (.nd (some Tryz.f566) .lf .lf) .lf) (.nd (some Tryz.f438) .lf .lf)) (.nd (some Tryz.f246) (.nd (some Tryz.f374) (.nd (some Tryz.f630) .lf .lf) .lf) (.nd (some Tryz.f502) .lf .lf))))) (.nd (some Tryz.f30) (.nd (some Tryz.f46) (.nd (some Tryz.f78) (.nd (some Tryz.f142) (.nd (some Tryz.f270) (.nd (some Tryz.f526) .lf .lf) .lf) (.nd (some Tryz.f398) (.nd (some Tryz.f654) .lf .lf) .lf)) (.nd (some Tryz.f206) (.nd (some Tryz.f334) (.nd (some Tryz.f590) .lf .lf) .lf) (.nd (some Tryz.f462) .lf .lf))) (.nd (some Tryz.f110) (.nd (some Tryz.f174) (.nd (some Tryz.f302) (.nd (some Tryz.f558) .lf .lf) .lf) (.nd (some Tryz.f430) .lf .lf)) (.nd (some Tryz.f238) (.nd (some Tryz.f366) (.nd (some Tryz.f622) .lf .lf) .lf) (.nd (some Tryz.f494) .lf .lf)))) (.nd (some Tryz.f62) (.nd (some Tryz.f94) (.nd (some Tryz.f158) (.nd (some Tryz.f286) (.nd (some Tryz.f542) .lf .lf) .lf) (.nd (some Tryz.f414) .lf .lf)) (.nd (some Tryz.f222) (.nd (some Tryz.f350) (.nd (some Tryz.f606) .lf .lf) .lf) (.nd (some Tryz.f478) .lf .lf))) (.nd (some Tryz.f126) (.nd (some Tryz.f190) (.nd (some Tryz.f318) (.nd (some Tryz.f574) .lf .lf) .lf) (.nd (some Tryz.f446) .lf .lf)) (.nd (some Tryz.f254) (.nd (some Tryz.f382) (.nd (some Tryz.f638) .lf .lf) .lf) (.nd (some Tryz.f510) .lf .lf)))))))))
noncomputable def masks : Tr Nat := (.nd (some 0) (.nd (some 0) (.nd (some 154742800058577713715254771) (.nd (some 79) (.nd (some 16499) (.nd (some 83890375) (.nd (some 19) (.nd (some 8592039695) (.nd (some 29) (.nd (some 77371400029852906322661199) .lf .lf) .lf) (.nd (some 8405055) (.nd (some 0) .lf .lf) .lf)) (.nd (some 1075) (.nd (some 3) (.nd (some 21) .lf .lf) .lf) (.nd (some 19) .lf .lf))) (.nd (some 73786994986603069947) (.nd (some 1125899906843133) (.nd (some 134344563) (.nd (some 16781263) .lf .lf) .lf) (.nd (some 519) .lf .lf)) (.nd (some 5) (.nd (some 524295) (.nd (some 271) .lf .lf) .lf) (.nd (some 31) .lf .lf)))) (.nd (some 19) (.nd (some 3) (.nd (some 2597416389966559543831669529624439) (.nd (some 3) (.nd (some 0) .lf .lf) .lf) (.nd (some 16806963) (.nd (some 15) .lf .lf) .lf)) (.nd (some 5) (.nd (some 22283071823440757529134497843) (.nd (some 1333065575601045263) .lf .lf) .lf) (.nd (some 5) .lf .lf))) (.nd (some 524315) (.nd (some 562984313168381) (.nd (some 3) (.nd (some 19) .lf .lf) .lf) (.nd (some 1074791247) .lf .lf)) (.nd (some 1074250695) (.nd (some 271) (.nd (some 19023213622105999119) .lf .lf) .lf) (.nd (some 295148045916841206269) .lf .lf))))) (.nd (some 38761258166635907579383291) (.nd (some 1005) (.nd (some 310712898894994471811031483) (.nd (some 16661) (.nd (some 8391) (.nd (some 3) .lf .lf) .lf) (.nd (some 2158963) (.nd (some 0) .lf .lf) .lf)) (.nd (some 1) (.nd (some 199) (.nd (some 21) .lf .lf) .lf) (.nd (some 2923003971560093291123168138537876760321514930163) .lf .lf))) (.nd (some 983639) (.nd (some 41539563364460844579556453984350151) (.nd (some 51) (.nd (some 1114173) .lf .lf) .lf) (.nd (some 21) .lf .lf)) (.nd (some 34426910711) (.nd (some 5) (.nd (some 68192301) .lf .lf) .lf) (.nd (some 8363) .lf .lf)))) (.nd (some 65735) (.nd (some 19) (.nd (some 2147547251) (.nd (some 21) (.nd (some 66483) .lf .lf) .lf) (.nd (some 515) (.nd (some 0) .lf .lf) .lf)) (.nd (some 283) (.nd (some 1048621) (.nd (some 5) .lf .lf) .lf) (.nd (some 66483) .lf .lf))) (.nd (some 13) (.nd (some 316917183598056228495340611247) (.nd (some 8592032243) (.nd (some 27) .lf .lf) .lf) (.nd (some 1062983) .lf .lf)) (.nd (some 22997644815212700899627017342834150232570911) (.nd (some 71) (.nd (some 0) .lf .lf) .lf) (.nd (some 15) .lf .lf)))))) (.nd (some 16455) (.nd (some 19) (.nd (some 15) (.nd (some 5) (.nd (some 21268317252094917911888073248812900111) (.nd (some 1073746119) (.nd (some 140746111846343) .lf .lf) .lf) (.nd (some 79300698068197157571487579599) (.nd (some 0) .lf .lf) .lf)) (.nd (some 1039) (.nd (some 4147) (.nd (some 19) .lf .lf) .lf) (.nd (some 524353) .lf .lf))) (.nd (some 51) (.nd (some 5) (.nd (some 21) (.nd (some 66227) .lf .lf) .lf) (.nd (some 8693) .lf .lf)) (.nd (some 19) (.nd (some 7) (.nd (some 183) .lf .lf) .lf) (.nd (some 39) .lf .lf)))) (.nd (some 15) (.nd (some 21) (.nd (some 1005) (.nd (some 65619) (.nd (some 5) .lf .lf) .lf) (.nd (some 5) (.nd (some 0) .lf .lf) .lf)) (.nd (some 188895235916275734577139) (.nd (some 15395) (.nd (some 22997644815212700899627017342834150232570911) .lf .lf) .lf) (.nd (some 17179886351) .lf .lf))) (.nd (some 144115200960774343) (.nd (some 4835998443252202707386583) (.nd (some 11) (.nd (some 1) .lf .lf) .lf) (.nd (some 2099319) .lf .lf)) (.nd (some 1333065575601045263) (.nd (some 1) (.nd (some 1055) .lf .lf) .lf) (.nd (some 4157) .lf .lf))))) (.nd (some 33571891) (.nd (some 1126415370032379) (.nd (some 42535296023574879666274036850519702559) (.nd (some 71001209263) (.nd (some 22458641409078797123448399039441150152463) (.nd (some 594912002450663878599) .lf .lf) .lf) (.nd (some 13) (.nd (some 67108895) .lf .lf) .lf)) (.nd (some 567412426600813) (.nd (some 65735) (.nd (some 5) .lf .lf) .lf) (.nd (some 7) .lf .lf))) (.nd (some 21) (.nd (some 1) (.nd (some 5497574916219) (.nd (some 3) .lf .lf) .lf) (.nd (some 15) .lf .lf)) (.nd (some 1074250695) (.nd (some 83) (.nd (some 20829169751433159) .lf .lf) .lf) (.nd (some 65735) .lf .lf)))) (.nd (some 27) (.nd (some 66483) (.nd (some 10384593871817177683247510831234831) (.nd (some 4256711) (.nd (some 29) .lf .lf) .lf) (.nd (some 7) (.nd (some 0) .lf .lf) .lf)) (.nd (some 138351151749653378483) (.nd (some 5) (.nd (some 77) .lf .lf) .lf) (.nd (some 8363) .lf .lf))) (.nd (some 29) (.nd (some 590295880727449831419) (.nd (some 5) (.nd (some 19) .lf .lf) .lf) (.nd (some 2067) .lf .lf)) (.nd (some 31159) (.nd (some 5) (.nd (some 0) .lf .lf) .lf) (.nd (some 271) .lf .lf))))))) (.nd (some 1) (.nd (some 1) (.nd (some 83) (.nd (some 266483) (.nd (some 19) (.nd (some 1333065575601045263) (.nd (some 1079) (.nd (some 7) .lf .lf) .lf) (.nd (some 5) (.nd (some 0) .lf .lf) .lf)) (.nd (some 583) (.nd (some 21) (.nd (some 11) .lf .lf) .lf) (.nd (some 7) .lf .lf))) (.nd (some 17596514574653) (.nd (some 15) (.nd (some 5) (.nd (some 17389) .lf .lf) .lf) (.nd (some 33019) .lf .lf)) (.nd (some 128853350703) (.nd (some 7) (.nd (some 525405) .lf .lf) .lf) (.nd (some 1031) .lf .lf)))) (.nd (some 604275) (.nd (some 15) (.nd (some 42535296023574879666274036850519702559) (.nd (some 19) (.nd (some 5) .lf .lf) .lf) (.nd (some 31) (.nd (some 0) .lf .lf) .lf)) (.nd (some 4159) (.nd (some 4723807778236704753479) (.nd (some 21268317252094917911888073248812900111) .lf .lf) .lf) (.nd (some 66483) .lf .lf))) (.nd (some 635063844912035382370706260187) (.nd (some 297458252888243450867) (.nd (some 268501491) (.nd (some 7) .lf .lf) .lf) (.nd (some 131083) .lf .lf)) (.nd (some 8592039695) (.nd (some 5) (.nd (some 4503668346913551) .lf .lf) .lf) (.nd (some 262173) .lf .lf))))) (.nd (some 5) (.nd (some 1) (.nd (some 537346061) (.nd (some 2658455991608517376935233854787067901) (.nd (some 19) (.nd (some 20981823) .lf .lf) .lf) (.nd (some 13) (.nd (some 0) .lf .lf) .lf)) (.nd (some 5) (.nd (some 676998458984192338506578119) (.nd (some 0) .lf .lf) .lf) (.nd (some 139293) .lf .lf))) (.nd (some 4400194117677) (.nd (some 4504149398914931) (.nd (some 1035) (.nd (some 67124829) .lf .lf) .lf) (.nd (some 967) .lf .lf)) (.nd (some 268685555) (.nd (some 17600780173423) (.nd (some 1074268103) .lf .lf) .lf) (.nd (some 66483) .lf .lf)))) (.nd (some 72568036425671) (.nd (some 278905490103) (.nd (some 540243) (.nd (some 127) (.nd (some 131229) .lf .lf) .lf) (.nd (some 29) (.nd (some 0) .lf .lf) .lf)) (.nd (some 4019) (.nd (some 4197407) (.nd (some 5) .lf .lf) .lf) (.nd (some 499) .lf .lf))) (.nd (some 2148008051) (.nd (some 5) (.nd (some 118) (.nd (some 749019592093908130998168547243562859198691857383367) .lf .lf) .lf) (.nd (some 33569849) .lf .lf)) (.nd (some 65549) (.nd (some 19) (.nd (some 0) .lf .lf) .lf) (.nd (some 8389591) .lf .lf)))))) (.nd (some 19) (.nd (some 1) (.nd (some 1075) (.nd (some 19) (.nd (some 22997644815212700899627017342834150232570911) (.nd (some 8804682991559) (.nd (some 550293734159) .lf .lf) .lf) (.nd (some 19) (.nd (some 0) .lf .lf) .lf)) (.nd (some 27) (.nd (some 1099511694279) (.nd (some 0) .lf .lf) .lf) (.nd (some 21) .lf .lf))) (.nd (some 66483) (.nd (some 36507352527) (.nd (some 16599) (.nd (some 183) .lf .lf) .lf) (.nd (some 3) .lf .lf)) (.nd (some 15) (.nd (some 2097283) (.nd (some 4197407) .lf .lf) .lf) (.nd (some 5) .lf .lf)))) (.nd (some 27) (.nd (some 33563639) (.nd (some 19) (.nd (some 19) (.nd (some 66483) .lf .lf) .lf) (.nd (some 1073742151) (.nd (some 0) .lf .lf) .lf)) (.nd (some 5) (.nd (some 7213) (.nd (some 71468256854525) .lf .lf) .lf) (.nd (some 5) .lf .lf))) (.nd (some 19) (.nd (some 19) (.nd (some 3) (.nd (some 13) .lf .lf) .lf) (.nd (some 563637148190971) .lf .lf)) (.nd (some 21268317252094917911888073248812900111) (.nd (some 157) (.nd (some 0) .lf .lf) .lf) (.nd (some 67615) .lf .lf))))) (.nd (some 63923) (.nd (some 35218732335197) (.nd (some 5) (.nd (some 1031) (.nd (some 5) (.nd (some 19) .lf .lf) .lf) (.nd (some 537861575) (.nd (some 271) .lf .lf) .lf)) (.nd (some 288231475663604767) (.nd (some 8207) (.nd (some 8592039695) .lf .lf) .lf) (.nd (some 4197407) .lf .lf))) (.nd (some 36267774588438875241185427) (.nd (some 19) (.nd (some 51) (.nd (some 8223) .lf .lf) .lf) (.nd (some 34363936607) .lf .lf)) (.nd (some 16806963) (.nd (some 38685921377829519393562399) (.nd (some 83087207854311395603287443752634311) .lf .lf) .lf) (.nd (some 4835998435933849571639293) .lf .lf)))) (.nd (some 1080881631747358707) (.nd (some 16785173) (.nd (some 737878770182063685613) (.nd (some 7859) (.nd (some 4139) .lf .lf) .lf) (.nd (some 11) .lf .lf)) (.nd (some 4398061260095) (.nd (some 17179886579) (.nd (some 0) .lf .lf) .lf) (.nd (some 2097683) .lf .lf))) (.nd (some 15) (.nd (some 1099511629939) (.nd (some 70643890527687) (.nd (some 71) .lf .lf) .lf) (.nd (some 131527) .lf .lf)) (.nd (some 42941682370112774214571656958967) (.nd (some 277027520455) (.nd (some 0) .lf .lf) .lf) (.nd (some 15395) .lf .lf)))))))) (.nd (some 0) (.nd (some 19807041219438359911736550899) (.nd (some 19) (.nd (some 2199023273011) (.nd (some 16471) (.nd (some 15) (.nd (some 35218731966215) (.nd (some 66483) (.nd (some 35218731829231) .lf .lf) .lf) (.nd (some 65587) (.nd (some 0) .lf .lf) .lf)) (.nd (some 65543) (.nd (some 3) (.nd (some 21) .lf .lf) .lf) (.nd (some 15) .lf .lf))) (.nd (some 5) (.nd (some 37) (.nd (some 302249969765774879014387) (.nd (some 31) .lf .lf) .lf) (.nd (some 253) .lf .lf)) (.nd (some 5) (.nd (some 27) (.nd (some 4159) .lf .lf) .lf) (.nd (some 5) .lf .lf)))) (.nd (some 31) (.nd (some 66483) (.nd (some 31) (.nd (some 31) (.nd (some 0) .lf .lf) .lf) (.nd (some 13) (.nd (some 0) .lf .lf) .lf)) (.nd (some 271) (.nd (some 3) (.nd (some 33543) .lf .lf) .lf) (.nd (some 262927) .lf .lf))) (.nd (some 4547157075) (.nd (some 5) (.nd (some 125829163) (.nd (some 5) .lf .lf) .lf) (.nd (some 34393293647) .lf .lf)) (.nd (some 17179886351) (.nd (some 4159) (.nd (some 22458641409078797123448399039441150152463) .lf .lf) .lf) (.nd (some 17592186291155) .lf .lf))))) (.nd (some 525199) (.nd (some 1053) (.nd (some 70368744194547) (.nd (some 3) (.nd (some 83087207854311395603287443752634311) (.nd (some 3) .lf .lf) .lf) (.nd (some 296683421546300851) (.nd (some 0) .lf .lf) .lf)) (.nd (some 3) (.nd (some 51) (.nd (some 21) .lf .lf) .lf) (.nd (some 20426010943356750102455122975) .lf .lf))) (.nd (some 1298074524128170109412448986250103) (.nd (some 144185567834316787) (.nd (some 32797) (.nd (some 2147516541) .lf .lf) .lf) (.nd (some 37778932003695186936829) .lf .lf)) (.nd (some 613018418207004623) (.nd (some 17188391667) (.nd (some 1073746119) .lf .lf) .lf) (.nd (some 133) .lf .lf)))) (.nd (some 5) (.nd (some 31) (.nd (some 19) (.nd (some 4203215) (.nd (some 0) .lf .lf) .lf) (.nd (some 13) (.nd (some 0) .lf .lf) .lf)) (.nd (some 33019) (.nd (some 8590917717) (.nd (some 8363) .lf .lf) .lf) (.nd (some 61603) .lf .lf))) (.nd (some 13) (.nd (some 458783) (.nd (some 83) (.nd (some 15) .lf .lf) .lf) (.nd (some 3) .lf .lf)) (.nd (some 15) (.nd (some 1055) (.nd (some 0) .lf .lf) .lf) (.nd (some 76265790678452481800753170495095410003421) .lf .lf)))))) (.nd (some 5) (.nd (some 1) (.nd (some 274945019847) (.nd (some 8590460915) (.nd (some 1217485249602318769183) (.nd (some 1074268103) (.nd (some 67109047) .lf .lf) .lf) (.nd (some 16371) (.nd (some 0) .lf .lf) .lf)) (.nd (some 13) (.nd (some 34426864071) (.nd (some 0) .lf .lf) .lf) (.nd (some 19) .lf .lf))) (.nd (some 7981) (.nd (some 5) (.nd (some 5) (.nd (some 37) .lf .lf) .lf) (.nd (some 33558421) .lf .lf)) (.nd (some 15) (.nd (some 554176735) (.nd (some 10384593871817177683247510831234831) .lf .lf) .lf) (.nd (some 11) .lf .lf)))) (.nd (some 295147905181504570311) (.nd (some 17729625129981) (.nd (some 5) (.nd (some 5) (.nd (some 5) .lf .lf) .lf) (.nd (some 8388723) (.nd (some 0) .lf .lf) .lf)) (.nd (some 5905590299) (.nd (some 138350582614437397165) (.nd (some 35) .lf .lf) .lf) (.nd (some 13164839976634628298295110780136696778032692856359452003713154079) .lf .lf))) (.nd (some 2097155) (.nd (some 2342933) (.nd (some 2067) (.nd (some 537399539) .lf .lf) .lf) (.nd (some 8396879) .lf .lf)) (.nd (some 33543) (.nd (some 51) (.nd (some 262927) .lf .lf) .lf) (.nd (some 2251939400122567) .lf .lf))))) (.nd (some 14688381) (.nd (some 563) (.nd (some 5) (.nd (some 334511859788885004819326850109624151542083039) (.nd (some 5) (.nd (some 17247509535) .lf .lf) .lf) (.nd (some 7) (.nd (some 15) .lf .lf) .lf)) (.nd (some 133005) (.nd (some 8863678612461182435707) (.nd (some 17179886351) .lf .lf) .lf) (.nd (some 140737774617843) .lf .lf))) (.nd (some 1) (.nd (some 1) (.nd (some 1048637) (.nd (some 19) .lf .lf) .lf) (.nd (some 11) .lf .lf)) (.nd (some 31) (.nd (some 2061) (.nd (some 8391) .lf .lf) .lf) (.nd (some 21) .lf .lf)))) (.nd (some 65735) (.nd (some 15) (.nd (some 15) (.nd (some 19) (.nd (some 36028934491488199) .lf .lf) .lf) (.nd (some 63) (.nd (some 0) .lf .lf) .lf)) (.nd (some 19) (.nd (some 524487) (.nd (some 5) .lf .lf) .lf) (.nd (some 9444733000992449363959) .lf .lf))) (.nd (some 66483) (.nd (some 1039) (.nd (some 4125) (.nd (some 71) .lf .lf) .lf) (.nd (some 7872557) .lf .lf)) (.nd (some 324259302153912691) (.nd (some 18014433942971335) (.nd (some 0) .lf .lf) .lf) (.nd (some 7864639) .lf .lf))))))) (.nd (some 309239218299) (.nd (some 19) (.nd (some 65663) (.nd (some 537399539) (.nd (some 15) (.nd (some 33543) (.nd (some 19) (.nd (some 2147484495) .lf .lf) .lf) (.nd (some 0) (.nd (some 0) .lf .lf) .lf)) (.nd (some 1048595) (.nd (some 5) (.nd (some 5) .lf .lf) .lf) (.nd (some 147844450044442838975) .lf .lf))) (.nd (some 27) (.nd (some 31) (.nd (some 65549) (.nd (some 604275) .lf .lf) .lf) (.nd (some 66037) .lf .lf)) (.nd (some 1965) (.nd (some 7) (.nd (some 261) .lf .lf) .lf) (.nd (some 66227) .lf .lf)))) (.nd (some 66483) (.nd (some 21) (.nd (some 19473648520706207646500343760426935) (.nd (some 51) (.nd (some 13) .lf .lf) .lf) (.nd (some 243) (.nd (some 0) .lf .lf) .lf)) (.nd (some 525) (.nd (some 583) (.nd (some 1217485249602318769183) .lf .lf) .lf) (.nd (some 5) .lf .lf))) (.nd (some 17834851696765) (.nd (some 5) (.nd (some 3) (.nd (some 8211) .lf .lf) .lf) (.nd (some 16445) .lf .lf)) (.nd (some 35218731966215) (.nd (some 21) (.nd (some 71) .lf .lf) .lf) (.nd (some 19) .lf .lf))))) (.nd (some 5) (.nd (some 999) (.nd (some 123) (.nd (some 5226742140537219659672453590567247130143483) (.nd (some 19023213622105999119) (.nd (some 239) .lf .lf) .lf) (.nd (some 689343567347) (.nd (some 0) .lf .lf) .lf)) (.nd (some 251658285) (.nd (some 5139) (.nd (some 0) .lf .lf) .lf) (.nd (some 19) .lf .lf))) (.nd (some 11417986986497897357150678644941553602512494451) (.nd (some 263149) (.nd (some 8388679) (.nd (some 3) .lf .lf) .lf) (.nd (some 68719607821) .lf .lf)) (.nd (some 39328015651735262036162423) (.nd (some 4612814001460592119) (.nd (some 8804682991559) .lf .lf) .lf) (.nd (some 15) .lf .lf)))) (.nd (some 4131759593203) (.nd (some 7725) (.nd (some 263149) (.nd (some 567348000196595) (.nd (some 9440287) .lf .lf) .lf) (.nd (some 51) (.nd (some 0) .lf .lf) .lf)) (.nd (some 2252933685051515) (.nd (some 5) (.nd (some 3259264009699125022261772349) .lf .lf) .lf) (.nd (some 5) .lf .lf))) (.nd (some 36413) (.nd (some 2477089018242321750037658995) (.nd (some 147) (.nd (some 19) .lf .lf) .lf) (.nd (some 11) .lf .lf)) (.nd (some 15795) (.nd (some 7) (.nd (some 0) .lf .lf) .lf) (.nd (some 7) .lf .lf)))))) (.nd (some 285) (.nd (some 34376516039) (.nd (some 94456553174290953001971) (.nd (some 257698066803) (.nd (some 277) (.nd (some 20829169751433159) (.nd (some 527) .lf .lf) .lf) (.nd (some 13) (.nd (some 0) .lf .lf) .lf)) (.nd (some 19) (.nd (some 2147517383) (.nd (some 9231) .lf .lf) .lf) (.nd (some 13) .lf .lf))) (.nd (some 66483) (.nd (some 275004779983) (.nd (some 13) (.nd (some 42535296023574879666274036850519702559) .lf .lf) .lf) (.nd (some 38690352926684213510420989) .lf .lf)) (.nd (some 311) (.nd (some 51) (.nd (some 536871367) .lf .lf) .lf) (.nd (some 19) .lf .lf)))) (.nd (some 2128051) (.nd (some 8388671) (.nd (some 15) (.nd (some 21) (.nd (some 27) .lf .lf) .lf) (.nd (some 11) (.nd (some 0) .lf .lf) .lf)) (.nd (some 2417866393021843827065615) (.nd (some 30819) (.nd (some 5) .lf .lf) .lf) (.nd (some 10141243564195130475776321258483) .lf .lf))) (.nd (some 5) (.nd (some 1599) (.nd (some 5) (.nd (some 7) .lf .lf) .lf) (.nd (some 5) .lf .lf)) (.nd (some 1217485249602318769183) (.nd (some 4503668346913551) (.nd (some 0) .lf .lf) .lf) (.nd (some 19) .lf .lf))))) (.nd (some 7951) (.nd (some 21) (.nd (some 0) (.nd (some 69272573) (.nd (some 21) (.nd (some 66483) .lf .lf) .lf) (.nd (some 16627) (.nd (some 15) .lf .lf) .lf)) (.nd (some 5) (.nd (some 19) (.nd (some 35218731966215) .lf .lf) .lf) (.nd (some 19) .lf .lf))) (.nd (some 17592186046587) (.nd (some 5) (.nd (some 3) (.nd (some 134218031) .lf .lf) .lf) (.nd (some 37778931895942527332175) .lf .lf)) (.nd (some 16806963) (.nd (some 288231475663604767) (.nd (some 19) .lf .lf) .lf) (.nd (some 8221) .lf .lf)))) (.nd (some 7725) (.nd (some 1005) (.nd (some 504373101) (.nd (some 1250034019870527468820103091) (.nd (some 183) .lf .lf) .lf) (.nd (some 243) .lf .lf)) (.nd (some 5) (.nd (some 19039345727148405560307) (.nd (some 288231475663604767) .lf .lf) .lf) (.nd (some 17172461) .lf .lf))) (.nd (some 17179886351) (.nd (some 531) (.nd (some 18893825420109763575895) (.nd (some 19) .lf .lf) .lf) (.nd (some 5) .lf .lf)) (.nd (some 7) (.nd (some 575) (.nd (some 0) .lf .lf) .lf) (.nd (some 5) .lf .lf)))))))))
noncomputable def maskOf (o : Option Nat) : Nat := @Option.rec Nat (fun _ => Nat) 0 (fun m => m) o
noncomputable def keepT (f : FuncId) (t : Tmp) : Bool := Nat.testBit (maskOf (masks.get f)) t
noncomputable def NN : Names := { join := 219, add := 212, sort1 := 395, coll2 := 598, keys1 := 475, keys2 := 600, clone := 386, add64 := 586, sub64 := 585, trunc := 536, mul64 := 388 }
end
end Go.Proofs.YtchkcnecgfolmaaGreatDoor.Ev
namespace Go.Proofs.YtchkcnecgfolmaaGreatDoor.Ev
open Go Go.Proofs
set_option maxRecDepth 1000000
set_option linter.unusedVariables false
noncomputable def fnD (o : Option Func) : Func := match o with
  | some f => f
  | none => Tryz.f0
noncomputable def OL : List (Nat × Orc) := orcL Tryz.prog NN keepT fun f => fnD (fnT.get f)
noncomputable def OT : Tr Orc := putL OL .lf
noncomputable def B0 : Base := { fn := fun f => fnT.get f, keep := keepT, reg := fun _ _ => none, orc := fun f => OT.get f }
/-- nothing is run in several ways -/
noncomputable def M0 : FuncId → Bool := fun _ => false
end Go.Proofs.YtchkcnecgfolmaaGreatDoor.Ev
namespace Go.Proofs.YtchkcnecgfolmaaGreatDoor.Ev
open Go Go.Proofs
set_option linter.unusedVariables false
set_option maxRecDepth 100000
def numP : List Bool → Nat
  | [] => 0
  | true :: p => 2 * numP p + 1
  | false :: p => 2 * numP p + 2
theorem numP_bits : ∀ (f n : Nat), n ≤ f → numP (bitsF f n) = n
  | 0, n, h => by
    have : n = 0 := by omega
    subst this
    rfl
  | f + 1, n, h => by
    rw [bitsF_succ]
    by_cases hn : n = 0
    · rw [if_pos hn, hn]; rfl
    · rw [if_neg hn]
      have ih := numP_bits f ((n - 1) / 2) (by omega)
      cases hb : Nat.beq (n % 2) 1
      · have h2 : n % 2 ≠ 1 := fun e => by rw [e] at hb; cases hb
        show 2 * numP _ + 2 = n
        rw [ih]
        omega
      · have h2 : n % 2 = 1 := Nat.eq_of_beq_eq_true hb
        show 2 * numP _ + 1 = n
        rw [ih]
        omega
/-- what holds of each entry of a tree -/
def trAll (Q : Nat → Func → Prop) (i : Nat → Nat) : Tr Func → Prop
  | .lf => True
  | .nd v l r => (match v with | some a => Q (i 0) a | none => True) ∧ trAll Q (fun k => i (2 * k + 1)) l ∧ trAll Q (fun k => i (2 * k + 2)) r
theorem trAll_getP {Q : Nat → Func → Prop} : ∀ (p : List Bool) (i : Nat → Nat) (t : Tr Func) (a : Func), trAll Q i t → Tr.getP p t = some a → Q (i (numP p)) a
  | [], i, .lf, a, _, h => by cases h
  | [], i, .nd v l r, a, h, e => by
    have e : v = some a := e
    subst e
    exact h.1
  | true :: p, i, .lf, a, _, h => by cases h
  | false :: p, i, .lf, a, _, h => by cases h
  | true :: p, i, .nd v l r, a, h, e => trAll_getP p (fun k => i (2 * k + 1)) l a h.2.1 e
  | false :: p, i, .nd v l r, a, h, e => trAll_getP p (fun k => i (2 * k + 2)) r a h.2.2 e
theorem trAll_get {Q : Nat → Func → Prop} {t : Tr Func} (h : trAll Q (fun k => k) t) {n : Nat} {a : Func} (e : t.get n = some a) : Q n a := by
  have := trAll_getP (bits n) (fun k => k) t a h e
  rw [show numP (bits n) = n from numP_bits n n (Nat.le_refl _)] at this
  exact this
noncomputable def lt (t : Tr Func) : Tr Func := match t with
  | .nd _ l _ => l
  | .lf => .lf
noncomputable def rt (t : Tr Func) : Tr Func := match t with
  | .nd _ _ r => r
  | .lf => .lf
theorem sel_two {a b : Bool} (h : sel a b false = true) : a = true ∧ b = true := by
  cases a
  · cases h
  · exact ⟨rfl, h⟩
/-- no function is the one whose call the model answers itself -/
noncomputable def namesOK (t : Tr Func) : Bool := @Tr.rec Func (fun _ => Bool) true (fun v _ _ a b => @Option.rec Func (fun _ => Bool) (sel a b false) (fun f => sel (f.name == "runtime.NumGoroutine") false (sel a b false)) v) t
theorem namesOK_getP : ∀ (p : List Bool) (t : Tr Func) (a : Func), namesOK t = true → Tr.getP p t = some a → (a.name == "runtime.NumGoroutine") = false
  | [], .lf, a, _, h => by cases h
  | [], .nd v l r, a, h, e => by
    have e : v = some a := e
    subst e
    have h : sel (a.name == "runtime.NumGoroutine") false (sel (namesOK l) (namesOK r) false) = true := h
    cases hn : (a.name == "runtime.NumGoroutine")
    · rfl
    · rw [hn] at h; cases h
  | true :: p, .lf, a, _, h => by cases h
  | false :: p, .lf, a, _, h => by cases h
  | b :: p, .nd v l r, a, h, e => by
    have h2 : namesOK l = true ∧ namesOK r = true := by
      cases v with
      | none =>
        have h : sel (namesOK l) (namesOK r) false = true := h
        exact sel_two h
      | some f =>
        have h : sel (f.name == "runtime.NumGoroutine") false (sel (namesOK l) (namesOK r) false) = true := h
        cases hn : (f.name == "runtime.NumGoroutine")
        · rw [hn] at h; exact sel_two h
        · rw [hn] at h; cases h
    cases b
    · exact namesOK_getP p r a h2.2 e
    · exact namesOK_getP p l a h2.1 e
theorem names_fnT : namesOK fnT = true := by decide +kernel
abbrev FnAt (n : Nat) (f : Func) : Prop := Tryz.prog.funcs[n]? = some f
theorem fnT_sub0 : trAll FnAt (fun k => (2 * (2 * (2 * (2 * k + 1) + 1) + 1) + 1)) (lt (lt (lt (lt fnT)))) := ⟨Tryz.func15, ⟨Tryz.func31, ⟨Tryz.func63, ⟨Tryz.func127, ⟨Tryz.func255, ⟨Tryz.func511, trivial, trivial⟩, trivial⟩, ⟨Tryz.func383, ⟨Tryz.func639, trivial, trivial⟩, trivial⟩⟩, ⟨Tryz.func191, ⟨Tryz.func319, ⟨Tryz.func575, trivial, trivial⟩, trivial⟩, ⟨Tryz.func447, trivial, trivial⟩⟩⟩, ⟨Tryz.func95, ⟨Tryz.func159, ⟨Tryz.func287, ⟨Tryz.func543, trivial, trivial⟩, trivial⟩, ⟨Tryz.func415, trivial, trivial⟩⟩, ⟨Tryz.func223, ⟨Tryz.func351, ⟨Tryz.func607, trivial, trivial⟩, trivial⟩, ⟨Tryz.func479, trivial, trivial⟩⟩⟩⟩, ⟨Tryz.func47, ⟨Tryz.func79, ⟨Tryz.func143, ⟨Tryz.func271, ⟨Tryz.func527, trivial, trivial⟩, trivial⟩, ⟨Tryz.func399, ⟨Tryz.func655, trivial, trivial⟩, trivial⟩⟩, ⟨Tryz.func207, ⟨Tryz.func335, ⟨Tryz.func591, trivial, trivial⟩, trivial⟩, ⟨Tryz.func463, trivial, trivial⟩⟩⟩, ⟨Tryz.func111, ⟨Tryz.func175, ⟨Tryz.func303, ⟨Tryz.func559, trivial, trivial⟩, trivial⟩, ⟨Tryz.func431, trivial, trivial⟩⟩, ⟨Tryz.func239, ⟨Tryz.func367, ⟨Tryz.func623, trivial, trivial⟩, trivial⟩, ⟨Tryz.func495, trivial, trivial⟩⟩⟩⟩⟩
theorem fnT_sub1 : trAll FnAt (fun k => (2 * (2 * (2 * (2 * k + 2) + 1) + 1) + 1)) (rt (lt (lt (lt fnT)))) := ⟨Tryz.func23, ⟨Tryz.func39, ⟨Tryz.func71, ⟨Tryz.func135, ⟨Tryz.func263, ⟨Tryz.func519, trivial, trivial⟩, trivial⟩, ⟨Tryz.func391, ⟨Tryz.func647, trivial, trivial⟩, trivial⟩⟩, ⟨Tryz.func199, ⟨Tryz.func327, ⟨Tryz.func583, trivial, trivial⟩, trivial⟩, ⟨Tryz.func455, trivial, trivial⟩⟩⟩, ⟨Tryz.func103, ⟨Tryz.func167, ⟨Tryz.func295, ⟨Tryz.func551, trivial, trivial⟩, trivial⟩, ⟨Tryz.func423, trivial, trivial⟩⟩, ⟨Tryz.func231, ⟨Tryz.func359, ⟨Tryz.func615, trivial, trivial⟩, trivial⟩, ⟨Tryz.func487, trivial, trivial⟩⟩⟩⟩, ⟨Tryz.func55, ⟨Tryz.func87, ⟨Tryz.func151, ⟨Tryz.func279, ⟨Tryz.func535, trivial, trivial⟩, trivial⟩, ⟨Tryz.func407, ⟨Tryz.func663, trivial, trivial⟩, trivial⟩⟩, ⟨Tryz.func215, ⟨Tryz.func343, ⟨Tryz.func599, trivial, trivial⟩, trivial⟩, ⟨Tryz.func471, trivial, trivial⟩⟩⟩, ⟨Tryz.func119, ⟨Tryz.func183, ⟨Tryz.func311, ⟨Tryz.func567, trivial, trivial⟩, trivial⟩, ⟨Tryz.func439, trivial, trivial⟩⟩, ⟨Tryz.func247, ⟨Tryz.func375, ⟨Tryz.func631, trivial, trivial⟩, trivial⟩, ⟨Tryz.func503, trivial, trivial⟩⟩⟩⟩⟩
theorem fnT_sub2 : trAll FnAt (fun k => (2 * (2 * (2 * (2 * k + 1) + 2) + 1) + 1)) (lt (rt (lt (lt fnT)))) := ⟨Tryz.func19, ⟨Tryz.func35, ⟨Tryz.func67, ⟨Tryz.func131, ⟨Tryz.func259, ⟨Tryz.func515, trivial, trivial⟩, trivial⟩, ⟨Tryz.func387, ⟨Tryz.func643, trivial, trivial⟩, trivial⟩⟩, ⟨Tryz.func195, ⟨Tryz.func323, ⟨Tryz.func579, trivial, trivial⟩, trivial⟩, ⟨Tryz.func451, trivial, trivial⟩⟩⟩, ⟨Tryz.func99, ⟨Tryz.func163, ⟨Tryz.func291, ⟨Tryz.func547, trivial, trivial⟩, trivial⟩, ⟨Tryz.func419, trivial, trivial⟩⟩, ⟨Tryz.func227, ⟨Tryz.func355, ⟨Tryz.func611, trivial, trivial⟩, trivial⟩, ⟨Tryz.func483, trivial, trivial⟩⟩⟩⟩, ⟨Tryz.func51, ⟨Tryz.func83, ⟨Tryz.func147, ⟨Tryz.func275, ⟨Tryz.func531, trivial, trivial⟩, trivial⟩, ⟨Tryz.func403, ⟨Tryz.func659, trivial, trivial⟩, trivial⟩⟩, ⟨Tryz.func211, ⟨Tryz.func339, ⟨Tryz.func595, trivial, trivial⟩, trivial⟩, ⟨Tryz.func467, trivial, trivial⟩⟩⟩, ⟨Tryz.func115, ⟨Tryz.func179, ⟨Tryz.func307, ⟨Tryz.func563, trivial, trivial⟩, trivial⟩, ⟨Tryz.func435, trivial, trivial⟩⟩, ⟨Tryz.func243, ⟨Tryz.func371, ⟨Tryz.func627, trivial, trivial⟩, trivial⟩, ⟨Tryz.func499, trivial, trivial⟩⟩⟩⟩⟩
theorem fnT_sub3 : trAll FnAt (fun k => (2 * (2 * (2 * (2 * k + 2) + 2) + 1) + 1)) (rt (rt (lt (lt fnT)))) := ⟨Tryz.func27, ⟨Tryz.func43, ⟨Tryz.func75, ⟨Tryz.func139, ⟨Tryz.func267, ⟨Tryz.func523, trivial, trivial⟩, trivial⟩, ⟨Tryz.func395, ⟨Tryz.func651, trivial, trivial⟩, trivial⟩⟩, ⟨Tryz.func203, ⟨Tryz.func331, ⟨Tryz.func587, trivial, trivial⟩, trivial⟩, ⟨Tryz.func459, trivial, trivial⟩⟩⟩, ⟨Tryz.func107, ⟨Tryz.func171, ⟨Tryz.func299, ⟨Tryz.func555, trivial, trivial⟩, trivial⟩, ⟨Tryz.func427, trivial, trivial⟩⟩, ⟨Tryz.func235, ⟨Tryz.func363, ⟨Tryz.func619, trivial, trivial⟩, trivial⟩, ⟨Tryz.func491, trivial, trivial⟩⟩⟩⟩, ⟨Tryz.func59, ⟨Tryz.func91, ⟨Tryz.func155, ⟨Tryz.func283, ⟨Tryz.func539, trivial, trivial⟩, trivial⟩, ⟨Tryz.func411, ⟨Tryz.func667, trivial, trivial⟩, trivial⟩⟩, ⟨Tryz.func219, ⟨Tryz.func347, ⟨Tryz.func603, trivial, trivial⟩, trivial⟩, ⟨Tryz.func475, trivial, trivial⟩⟩⟩, ⟨Tryz.func123, ⟨Tryz.func187, ⟨Tryz.func315, ⟨Tryz.func571, trivial, trivial⟩, trivial⟩, ⟨Tryz.func443, trivial, trivial⟩⟩, ⟨Tryz.func251, ⟨Tryz.func379, ⟨Tryz.func635, trivial, trivial⟩, trivial⟩, ⟨Tryz.func507, trivial, trivial⟩⟩⟩⟩⟩
theorem fnT_sub4 : trAll FnAt (fun k => (2 * (2 * (2 * (2 * k + 1) + 1) + 2) + 1)) (lt (lt (rt (lt fnT)))) := ⟨Tryz.func17, ⟨Tryz.func33, ⟨Tryz.func65, ⟨Tryz.func129, ⟨Tryz.func257, ⟨Tryz.func513, trivial, trivial⟩, trivial⟩, ⟨Tryz.func385, ⟨Tryz.func641, trivial, trivial⟩, trivial⟩⟩, ⟨Tryz.func193, ⟨Tryz.func321, ⟨Tryz.func577, trivial, trivial⟩, trivial⟩, ⟨Tryz.func449, trivial, trivial⟩⟩⟩, ⟨Tryz.func97, ⟨Tryz.func161, ⟨Tryz.func289, ⟨Tryz.func545, trivial, trivial⟩, trivial⟩, ⟨Tryz.func417, trivial, trivial⟩⟩, ⟨Tryz.func225, ⟨Tryz.func353, ⟨Tryz.func609, trivial, trivial⟩, trivial⟩, ⟨Tryz.func481, trivial, trivial⟩⟩⟩⟩, ⟨Tryz.func49, ⟨Tryz.func81, ⟨Tryz.func145, ⟨Tryz.func273, ⟨Tryz.func529, trivial, trivial⟩, trivial⟩, ⟨Tryz.func401, ⟨Tryz.func657, trivial, trivial⟩, trivial⟩⟩, ⟨Tryz.func209, ⟨Tryz.func337, ⟨Tryz.func593, trivial, trivial⟩, trivial⟩, ⟨Tryz.func465, trivial, trivial⟩⟩⟩, ⟨Tryz.func113, ⟨Tryz.func177, ⟨Tryz.func305, ⟨Tryz.func561, trivial, trivial⟩, trivial⟩, ⟨Tryz.func433, trivial, trivial⟩⟩, ⟨Tryz.func241, ⟨Tryz.func369, ⟨Tryz.func625, trivial, trivial⟩, trivial⟩, ⟨Tryz.func497, trivial, trivial⟩⟩⟩⟩⟩
theorem fnT_sub5 : trAll FnAt (fun k => (2 * (2 * (2 * (2 * k + 2) + 1) + 2) + 1)) (rt (lt (rt (lt fnT)))) := ⟨Tryz.func25, ⟨Tryz.func41, ⟨Tryz.func73, ⟨Tryz.func137, ⟨Tryz.func265, ⟨Tryz.func521, trivial, trivial⟩, trivial⟩, ⟨Tryz.func393, ⟨Tryz.func649, trivial, trivial⟩, trivial⟩⟩, ⟨Tryz.func201, ⟨Tryz.func329, ⟨Tryz.func585, trivial, trivial⟩, trivial⟩, ⟨Tryz.func457, trivial, trivial⟩⟩⟩, ⟨Tryz.func105, ⟨Tryz.func169, ⟨Tryz.func297, ⟨Tryz.func553, trivial, trivial⟩, trivial⟩, ⟨Tryz.func425, trivial, trivial⟩⟩, ⟨Tryz.func233, ⟨Tryz.func361, ⟨Tryz.func617, trivial, trivial⟩, trivial⟩, ⟨Tryz.func489, trivial, trivial⟩⟩⟩⟩, ⟨Tryz.func57, ⟨Tryz.func89, ⟨Tryz.func153, ⟨Tryz.func281, ⟨Tryz.func537, trivial, trivial⟩, trivial⟩, ⟨Tryz.func409, ⟨Tryz.func665, trivial, trivial⟩, trivial⟩⟩, ⟨Tryz.func217, ⟨Tryz.func345, ⟨Tryz.func601, trivial, trivial⟩, trivial⟩, ⟨Tryz.func473, trivial, trivial⟩⟩⟩, ⟨Tryz.func121, ⟨Tryz.func185, ⟨Tryz.func313, ⟨Tryz.func569, trivial, trivial⟩, trivial⟩, ⟨Tryz.func441, trivial, trivial⟩⟩, ⟨Tryz.func249, ⟨Tryz.func377, ⟨Tryz.func633, trivial, trivial⟩, trivial⟩, ⟨Tryz.func505, trivial, trivial⟩⟩⟩⟩⟩
theorem fnT_sub6 : trAll FnAt (fun k => (2 * (2 * (2 * (2 * k + 1) + 2) + 2) + 1)) (lt (rt (rt (lt fnT)))) := ⟨Tryz.func21, ⟨Tryz.func37, ⟨Tryz.func69, ⟨Tryz.func133, ⟨Tryz.func261, ⟨Tryz.func517, trivial, trivial⟩, trivial⟩, ⟨Tryz.func389, ⟨Tryz.func645, trivial, trivial⟩, trivial⟩⟩, ⟨Tryz.func197, ⟨Tryz.func325, ⟨Tryz.func581, trivial, trivial⟩, trivial⟩, ⟨Tryz.func453, trivial, trivial⟩⟩⟩, ⟨Tryz.func101, ⟨Tryz.func165, ⟨Tryz.func293, ⟨Tryz.func549, trivial, trivial⟩, trivial⟩, ⟨Tryz.func421, trivial, trivial⟩⟩, ⟨Tryz.func229, ⟨Tryz.func357, ⟨Tryz.func613, trivial, trivial⟩, trivial⟩, ⟨Tryz.func485, trivial, trivial⟩⟩⟩⟩, ⟨Tryz.func53, ⟨Tryz.func85, ⟨Tryz.func149, ⟨Tryz.func277, ⟨Tryz.func533, trivial, trivial⟩, trivial⟩, ⟨Tryz.func405, ⟨Tryz.func661, trivial, trivial⟩, trivial⟩⟩, ⟨Tryz.func213, ⟨Tryz.func341, ⟨Tryz.func597, trivial, trivial⟩, trivial⟩, ⟨Tryz.func469, trivial, trivial⟩⟩⟩, ⟨Tryz.func117, ⟨Tryz.func181, ⟨Tryz.func309, ⟨Tryz.func565, trivial, trivial⟩, trivial⟩, ⟨Tryz.func437, trivial, trivial⟩⟩, ⟨Tryz.func245, ⟨Tryz.func373, ⟨Tryz.func629, trivial, trivial⟩, trivial⟩, ⟨Tryz.func501, trivial, trivial⟩⟩⟩⟩⟩
theorem fnT_sub7 : trAll FnAt (fun k => (2 * (2 * (2 * (2 * k + 2) + 2) + 2) + 1)) (rt (rt (rt (lt fnT)))) := ⟨Tryz.func29, ⟨Tryz.func45, ⟨Tryz.func77, ⟨Tryz.func141, ⟨Tryz.func269, ⟨Tryz.func525, trivial, trivial⟩, trivial⟩, ⟨Tryz.func397, ⟨Tryz.func653, trivial, trivial⟩, trivial⟩⟩, ⟨Tryz.func205, ⟨Tryz.func333, ⟨Tryz.func589, trivial, trivial⟩, trivial⟩, ⟨Tryz.func461, trivial, trivial⟩⟩⟩, ⟨Tryz.func109, ⟨Tryz.func173, ⟨Tryz.func301, ⟨Tryz.func557, trivial, trivial⟩, trivial⟩, ⟨Tryz.func429, trivial, trivial⟩⟩, ⟨Tryz.func237, ⟨Tryz.func365, ⟨Tryz.func621, trivial, trivial⟩, trivial⟩, ⟨Tryz.func493, trivial, trivial⟩⟩⟩⟩, ⟨Tryz.func61, ⟨Tryz.func93, ⟨Tryz.func157, ⟨Tryz.func285, ⟨Tryz.func541, trivial, trivial⟩, trivial⟩, ⟨Tryz.func413, trivial, trivial⟩⟩, ⟨Tryz.func221, ⟨Tryz.func349, ⟨Tryz.func605, trivial, trivial⟩, trivial⟩, ⟨Tryz.func477, trivial, trivial⟩⟩⟩, ⟨Tryz.func125, ⟨Tryz.func189, ⟨Tryz.func317, ⟨Tryz.func573, trivial, trivial⟩, trivial⟩, ⟨Tryz.func445, trivial, trivial⟩⟩, ⟨Tryz.func253, ⟨Tryz.func381, ⟨Tryz.func637, trivial, trivial⟩, trivial⟩, ⟨Tryz.func509, trivial, trivial⟩⟩⟩⟩⟩
theorem fnT_sub8 : trAll FnAt (fun k => (2 * (2 * (2 * (2 * k + 1) + 1) + 1) + 2)) (lt (lt (lt (rt fnT)))) := ⟨Tryz.func16, ⟨Tryz.func32, ⟨Tryz.func64, ⟨Tryz.func128, ⟨Tryz.func256, ⟨Tryz.func512, trivial, trivial⟩, trivial⟩, ⟨Tryz.func384, ⟨Tryz.func640, trivial, trivial⟩, trivial⟩⟩, ⟨Tryz.func192, ⟨Tryz.func320, ⟨Tryz.func576, trivial, trivial⟩, trivial⟩, ⟨Tryz.func448, trivial, trivial⟩⟩⟩, ⟨Tryz.func96, ⟨Tryz.func160, ⟨Tryz.func288, ⟨Tryz.func544, trivial, trivial⟩, trivial⟩, ⟨Tryz.func416, trivial, trivial⟩⟩, ⟨Tryz.func224, ⟨Tryz.func352, ⟨Tryz.func608, trivial, trivial⟩, trivial⟩, ⟨Tryz.func480, trivial, trivial⟩⟩⟩⟩, ⟨Tryz.func48, ⟨Tryz.func80, ⟨Tryz.func144, ⟨Tryz.func272, ⟨Tryz.func528, trivial, trivial⟩, trivial⟩, ⟨Tryz.func400, ⟨Tryz.func656, trivial, trivial⟩, trivial⟩⟩, ⟨Tryz.func208, ⟨Tryz.func336, ⟨Tryz.func592, trivial, trivial⟩, trivial⟩, ⟨Tryz.func464, trivial, trivial⟩⟩⟩, ⟨Tryz.func112, ⟨Tryz.func176, ⟨Tryz.func304, ⟨Tryz.func560, trivial, trivial⟩, trivial⟩, ⟨Tryz.func432, trivial, trivial⟩⟩, ⟨Tryz.func240, ⟨Tryz.func368, ⟨Tryz.func624, trivial, trivial⟩, trivial⟩, ⟨Tryz.func496, trivial, trivial⟩⟩⟩⟩⟩
theorem fnT_sub9 : trAll FnAt (fun k => (2 * (2 * (2 * (2 * k + 2) + 1) + 1) + 2)) (rt (lt (lt (rt fnT)))) := ⟨Tryz.func24, ⟨Tryz.func40, ⟨Tryz.func72, ⟨Tryz.func136, ⟨Tryz.func264, ⟨Tryz.func520, trivial, trivial⟩, trivial⟩, ⟨Tryz.func392, ⟨Tryz.func648, trivial, trivial⟩, trivial⟩⟩, ⟨Tryz.func200, ⟨Tryz.func328, ⟨Tryz.func584, trivial, trivial⟩, trivial⟩, ⟨Tryz.func456, trivial, trivial⟩⟩⟩, ⟨Tryz.func104, ⟨Tryz.func168, ⟨Tryz.func296, ⟨Tryz.func552, trivial, trivial⟩, trivial⟩, ⟨Tryz.func424, trivial, trivial⟩⟩, ⟨Tryz.func232, ⟨Tryz.func360, ⟨Tryz.func616, trivial, trivial⟩, trivial⟩, ⟨Tryz.func488, trivial, trivial⟩⟩⟩⟩, ⟨Tryz.func56, ⟨Tryz.func88, ⟨Tryz.func152, ⟨Tryz.func280, ⟨Tryz.func536, trivial, trivial⟩, trivial⟩, ⟨Tryz.func408, ⟨Tryz.func664, trivial, trivial⟩, trivial⟩⟩, ⟨Tryz.func216, ⟨Tryz.func344, ⟨Tryz.func600, trivial, trivial⟩, trivial⟩, ⟨Tryz.func472, trivial, trivial⟩⟩⟩, ⟨Tryz.func120, ⟨Tryz.func184, ⟨Tryz.func312, ⟨Tryz.func568, trivial, trivial⟩, trivial⟩, ⟨Tryz.func440, trivial, trivial⟩⟩, ⟨Tryz.func248, ⟨Tryz.func376, ⟨Tryz.func632, trivial, trivial⟩, trivial⟩, ⟨Tryz.func504, trivial, trivial⟩⟩⟩⟩⟩
theorem fnT_sub10 : trAll FnAt (fun k => (2 * (2 * (2 * (2 * k + 1) + 2) + 1) + 2)) (lt (rt (lt (rt fnT)))) := ⟨Tryz.func20, ⟨Tryz.func36, ⟨Tryz.func68, ⟨Tryz.func132, ⟨Tryz.func260, ⟨Tryz.func516, trivial, trivial⟩, trivial⟩, ⟨Tryz.func388, ⟨Tryz.func644, trivial, trivial⟩, trivial⟩⟩, ⟨Tryz.func196, ⟨Tryz.func324, ⟨Tryz.func580, trivial, trivial⟩, trivial⟩, ⟨Tryz.func452, trivial, trivial⟩⟩⟩, ⟨Tryz.func100, ⟨Tryz.func164, ⟨Tryz.func292, ⟨Tryz.func548, trivial, trivial⟩, trivial⟩, ⟨Tryz.func420, trivial, trivial⟩⟩, ⟨Tryz.func228, ⟨Tryz.func356, ⟨Tryz.func612, trivial, trivial⟩, trivial⟩, ⟨Tryz.func484, trivial, trivial⟩⟩⟩⟩, ⟨Tryz.func52, ⟨Tryz.func84, ⟨Tryz.func148, ⟨Tryz.func276, ⟨Tryz.func532, trivial, trivial⟩, trivial⟩, ⟨Tryz.func404, ⟨Tryz.func660, trivial, trivial⟩, trivial⟩⟩, ⟨Tryz.func212, ⟨Tryz.func340, ⟨Tryz.func596, trivial, trivial⟩, trivial⟩, ⟨Tryz.func468, trivial, trivial⟩⟩⟩, ⟨Tryz.func116, ⟨Tryz.func180, ⟨Tryz.func308, ⟨Tryz.func564, trivial, trivial⟩, trivial⟩, ⟨Tryz.func436, trivial, trivial⟩⟩, ⟨Tryz.func244, ⟨Tryz.func372, ⟨Tryz.func628, trivial, trivial⟩, trivial⟩, ⟨Tryz.func500, trivial, trivial⟩⟩⟩⟩⟩
theorem fnT_sub11 : trAll FnAt (fun k => (2 * (2 * (2 * (2 * k + 2) + 2) + 1) + 2)) (rt (rt (lt (rt fnT)))) := ⟨Tryz.func28, ⟨Tryz.func44, ⟨Tryz.func76, ⟨Tryz.func140, ⟨Tryz.func268, ⟨Tryz.func524, trivial, trivial⟩, trivial⟩, ⟨Tryz.func396, ⟨Tryz.func652, trivial, trivial⟩, trivial⟩⟩, ⟨Tryz.func204, ⟨Tryz.func332, ⟨Tryz.func588, trivial, trivial⟩, trivial⟩, ⟨Tryz.func460, trivial, trivial⟩⟩⟩, ⟨Tryz.func108, ⟨Tryz.func172, ⟨Tryz.func300, ⟨Tryz.func556, trivial, trivial⟩, trivial⟩, ⟨Tryz.func428, trivial, trivial⟩⟩, ⟨Tryz.func236, ⟨Tryz.func364, ⟨Tryz.func620, trivial, trivial⟩, trivial⟩, ⟨Tryz.func492, trivial, trivial⟩⟩⟩⟩, ⟨Tryz.func60, ⟨Tryz.func92, ⟨Tryz.func156, ⟨Tryz.func284, ⟨Tryz.func540, trivial, trivial⟩, trivial⟩, ⟨Tryz.func412, ⟨Tryz.func668, trivial, trivial⟩, trivial⟩⟩, ⟨Tryz.func220, ⟨Tryz.func348, ⟨Tryz.func604, trivial, trivial⟩, trivial⟩, ⟨Tryz.func476, trivial, trivial⟩⟩⟩, ⟨Tryz.func124, ⟨Tryz.func188, ⟨Tryz.func316, ⟨Tryz.func572, trivial, trivial⟩, trivial⟩, ⟨Tryz.func444, trivial, trivial⟩⟩, ⟨Tryz.func252, ⟨Tryz.func380, ⟨Tryz.func636, trivial, trivial⟩, trivial⟩, ⟨Tryz.func508, trivial, trivial⟩⟩⟩⟩⟩
theorem fnT_sub12 : trAll FnAt (fun k => (2 * (2 * (2 * (2 * k + 1) + 1) + 2) + 2)) (lt (lt (rt (rt fnT)))) := ⟨Tryz.func18, ⟨Tryz.func34, ⟨Tryz.func66, ⟨Tryz.func130, ⟨Tryz.func258, ⟨Tryz.func514, trivial, trivial⟩, trivial⟩, ⟨Tryz.func386, ⟨Tryz.func642, trivial, trivial⟩, trivial⟩⟩, ⟨Tryz.func194, ⟨Tryz.func322, ⟨Tryz.func578, trivial, trivial⟩, trivial⟩, ⟨Tryz.func450, trivial, trivial⟩⟩⟩, ⟨Tryz.func98, ⟨Tryz.func162, ⟨Tryz.func290, ⟨Tryz.func546, trivial, trivial⟩, trivial⟩, ⟨Tryz.func418, trivial, trivial⟩⟩, ⟨Tryz.func226, ⟨Tryz.func354, ⟨Tryz.func610, trivial, trivial⟩, trivial⟩, ⟨Tryz.func482, trivial, trivial⟩⟩⟩⟩, ⟨Tryz.func50, ⟨Tryz.func82, ⟨Tryz.func146, ⟨Tryz.func274, ⟨Tryz.func530, trivial, trivial⟩, trivial⟩, ⟨Tryz.func402, ⟨Tryz.func658, trivial, trivial⟩, trivial⟩⟩, ⟨Tryz.func210, ⟨Tryz.func338, ⟨Tryz.func594, trivial, trivial⟩, trivial⟩, ⟨Tryz.func466, trivial, trivial⟩⟩⟩, ⟨Tryz.func114, ⟨Tryz.func178, ⟨Tryz.func306, ⟨Tryz.func562, trivial, trivial⟩, trivial⟩, ⟨Tryz.func434, trivial, trivial⟩⟩, ⟨Tryz.func242, ⟨Tryz.func370, ⟨Tryz.func626, trivial, trivial⟩, trivial⟩, ⟨Tryz.func498, trivial, trivial⟩⟩⟩⟩⟩
theorem fnT_sub13 : trAll FnAt (fun k => (2 * (2 * (2 * (2 * k + 2) + 1) + 2) + 2)) (rt (lt (rt (rt fnT)))) := ⟨Tryz.func26, ⟨Tryz.func42, ⟨Tryz.func74, ⟨Tryz.func138, ⟨Tryz.func266, ⟨Tryz.func522, trivial, trivial⟩, trivial⟩, ⟨Tryz.func394, ⟨Tryz.func650, trivial, trivial⟩, trivial⟩⟩, ⟨Tryz.func202, ⟨Tryz.func330, ⟨Tryz.func586, trivial, trivial⟩, trivial⟩, ⟨Tryz.func458, trivial, trivial⟩⟩⟩, ⟨Tryz.func106, ⟨Tryz.func170, ⟨Tryz.func298, ⟨Tryz.func554, trivial, trivial⟩, trivial⟩, ⟨Tryz.func426, trivial, trivial⟩⟩, ⟨Tryz.func234, ⟨Tryz.func362, ⟨Tryz.func618, trivial, trivial⟩, trivial⟩, ⟨Tryz.func490, trivial, trivial⟩⟩⟩⟩, ⟨Tryz.func58, ⟨Tryz.func90, ⟨Tryz.func154, ⟨Tryz.func282, ⟨Tryz.func538, trivial, trivial⟩, trivial⟩, ⟨Tryz.func410, ⟨Tryz.func666, trivial, trivial⟩, trivial⟩⟩, ⟨Tryz.func218, ⟨Tryz.func346, ⟨Tryz.func602, trivial, trivial⟩, trivial⟩, ⟨Tryz.func474, trivial, trivial⟩⟩⟩, ⟨Tryz.func122, ⟨Tryz.func186, ⟨Tryz.func314, ⟨Tryz.func570, trivial, trivial⟩, trivial⟩, ⟨Tryz.func442, trivial, trivial⟩⟩, ⟨Tryz.func250, ⟨Tryz.func378, ⟨Tryz.func634, trivial, trivial⟩, trivial⟩, ⟨Tryz.func506, trivial, trivial⟩⟩⟩⟩⟩
theorem fnT_sub14 : trAll FnAt (fun k => (2 * (2 * (2 * (2 * k + 1) + 2) + 2) + 2)) (lt (rt (rt (rt fnT)))) := ⟨Tryz.func22, ⟨Tryz.func38, ⟨Tryz.func70, ⟨Tryz.func134, ⟨Tryz.func262, ⟨Tryz.func518, trivial, trivial⟩, trivial⟩, ⟨Tryz.func390, ⟨Tryz.func646, trivial, trivial⟩, trivial⟩⟩, ⟨Tryz.func198, ⟨Tryz.func326, ⟨Tryz.func582, trivial, trivial⟩, trivial⟩, ⟨Tryz.func454, trivial, trivial⟩⟩⟩, ⟨Tryz.func102, ⟨Tryz.func166, ⟨Tryz.func294, ⟨Tryz.func550, trivial, trivial⟩, trivial⟩, ⟨Tryz.func422, trivial, trivial⟩⟩, ⟨Tryz.func230, ⟨Tryz.func358, ⟨Tryz.func614, trivial, trivial⟩, trivial⟩, ⟨Tryz.func486, trivial, trivial⟩⟩⟩⟩, ⟨Tryz.func54, ⟨Tryz.func86, ⟨Tryz.func150, ⟨Tryz.func278, ⟨Tryz.func534, trivial, trivial⟩, trivial⟩, ⟨Tryz.func406, ⟨Tryz.func662, trivial, trivial⟩, trivial⟩⟩, ⟨Tryz.func214, ⟨Tryz.func342, ⟨Tryz.func598, trivial, trivial⟩, trivial⟩, ⟨Tryz.func470, trivial, trivial⟩⟩⟩, ⟨Tryz.func118, ⟨Tryz.func182, ⟨Tryz.func310, ⟨Tryz.func566, trivial, trivial⟩, trivial⟩, ⟨Tryz.func438, trivial, trivial⟩⟩, ⟨Tryz.func246, ⟨Tryz.func374, ⟨Tryz.func630, trivial, trivial⟩, trivial⟩, ⟨Tryz.func502, trivial, trivial⟩⟩⟩⟩⟩
theorem fnT_sub15 : trAll FnAt (fun k => (2 * (2 * (2 * (2 * k + 2) + 2) + 2) + 2)) (rt (rt (rt (rt fnT)))) := ⟨Tryz.func30, ⟨Tryz.func46, ⟨Tryz.func78, ⟨Tryz.func142, ⟨Tryz.func270, ⟨Tryz.func526, trivial, trivial⟩, trivial⟩, ⟨Tryz.func398, ⟨Tryz.func654, trivial, trivial⟩, trivial⟩⟩, ⟨Tryz.func206, ⟨Tryz.func334, ⟨Tryz.func590, trivial, trivial⟩, trivial⟩, ⟨Tryz.func462, trivial, trivial⟩⟩⟩, ⟨Tryz.func110, ⟨Tryz.func174, ⟨Tryz.func302, ⟨Tryz.func558, trivial, trivial⟩, trivial⟩, ⟨Tryz.func430, trivial, trivial⟩⟩, ⟨Tryz.func238, ⟨Tryz.func366, ⟨Tryz.func622, trivial, trivial⟩, trivial⟩, ⟨Tryz.func494, trivial, trivial⟩⟩⟩⟩, ⟨Tryz.func62, ⟨Tryz.func94, ⟨Tryz.func158, ⟨Tryz.func286, ⟨Tryz.func542, trivial, trivial⟩, trivial⟩, ⟨Tryz.func414, trivial, trivial⟩⟩, ⟨Tryz.func222, ⟨Tryz.func350, ⟨Tryz.func606, trivial, trivial⟩, trivial⟩, ⟨Tryz.func478, trivial, trivial⟩⟩⟩, ⟨Tryz.func126, ⟨Tryz.func190, ⟨Tryz.func318, ⟨Tryz.func574, trivial, trivial⟩, trivial⟩, ⟨Tryz.func446, trivial, trivial⟩⟩, ⟨Tryz.func254, ⟨Tryz.func382, ⟨Tryz.func638, trivial, trivial⟩, trivial⟩, ⟨Tryz.func510, trivial, trivial⟩⟩⟩⟩⟩
theorem fnT_all : trAll FnAt (fun k => k) fnT := ⟨Tryz.func0, ⟨Tryz.func1, ⟨Tryz.func3, ⟨Tryz.func7, fnT_sub0, fnT_sub1⟩, ⟨Tryz.func11, fnT_sub2, fnT_sub3⟩⟩, ⟨Tryz.func5, ⟨Tryz.func9, fnT_sub4, fnT_sub5⟩, ⟨Tryz.func13, fnT_sub6, fnT_sub7⟩⟩⟩, ⟨Tryz.func2, ⟨Tryz.func4, ⟨Tryz.func8, fnT_sub8, fnT_sub9⟩, ⟨Tryz.func12, fnT_sub10, fnT_sub11⟩⟩, ⟨Tryz.func6, ⟨Tryz.func10, fnT_sub12, fnT_sub13⟩, ⟨Tryz.func14, fnT_sub14, fnT_sub15⟩⟩⟩⟩
theorem fnT_ok (f : FuncId) (fn : Func) (h : fnT.get f = some fn) : Tryz.prog.funcs[f]? = some fn ∧ (fn.name == "runtime.NumGoroutine") = false :=
  ⟨trAll_get fnT_all h, namesOK_getP (bits f) fnT fn names_fnT h⟩
end Go.Proofs.YtchkcnecgfolmaaGreatDoor.Ev
namespace Go.Proofs.YtchkcnecgfolmaaGreatDoor.Ev
open Go Go.Proofs Go.Shelf
set_option linter.unusedSectionVars false
set_option linter.unusedVariables false
set_option maxRecDepth 100000
variable [Sig]
theorem mixedP : Tryz.prog.follows .mixedOrders = true := by kernel_rfl
def renFM (n : Nat) : FuncId := match n with
  | 264 => 388
  | _ => 0
def renTM (n : Nat) : TypeId := match n with
  | 46 => 196
  | 53 => 276
  | _ => 0
def renM : Ren := ⟨renFM, renTM, fun x => x⟩
theorem laysM : Lays.n264 Tryz.prog renM where
  mixed := by kernel_rfl
  f264 := by kernel_rfl
  t46 := by kernel_rfl
  a46 := fun _ => by kernel_rfl
  z46 := fun _ => by kernel_rfl
  v46 := fun _ => by kernel_rfl
  t53 := by kernel_rfl
  a53 := fun _ => by kernel_rfl
  z53 := fun _ => by kernel_rfl
  v53 := fun _ => by kernel_rfl
theorem mul_is : OrcOK Tryz.prog 388 oMul :=
  mul_right Tryz.func388 (by kernel_rfl) rfl fun x y hx hy w => Any.bits_Mul64 laysM x y hx hy w
theorem add64_is : OrcOK Tryz.prog 586 (oCarry false (oPure Tryz.prog Tryz.f586)) :=
  carry_right false Tryz.func586 (by kernel_rfl) (by kernel_rfl) (by kernel_rfl) (by kernel_rfl)
theorem sub64_is : OrcOK Tryz.prog 585 (oCarry true (oPure Tryz.prog Tryz.f585)) :=
  carry_right true Tryz.func585 (by kernel_rfl) (by kernel_rfl) (by kernel_rfl) (by kernel_rfl)
theorem trunc_is : OrcOK Tryz.prog 536 (oPure Tryz.prog Tryz.f536) :=
  pure_right Tryz.func536 (by kernel_rfl) (by kernel_rfl) (by kernel_rfl)
theorem clone_is : OrcOK Tryz.prog 386 oClone :=
  clone_right Tryz.func386 (by kernel_rfl) (by kernel_rfl) (by kernel_rfl) (by kernel_rfl)
end Go.Proofs.YtchkcnecgfolmaaGreatDoor.Ev
namespace Go.Proofs.YtchkcnecgfolmaaGreatDoor.Ev
open Go Go.Proofs
set_option linter.unusedSectionVars false
set_option linter.unusedVariables false
set_option maxRecDepth 100000
variable [Sig]
noncomputable def addT : Two := ⟨212, 3, 13, 12, addIds⟩
theorem add_coin {keep : Keep} (hk : keep 13 = true) {id : Nat} {ops : Array Oper} {o0 o1 o2 o3 : Oper} (hops : ops = #[o0, o1, o2, o3]) (d0 : o0.dst = some 12) (d1 : o1.dst = none) (d2 : o2.dst = none) (d3 : o3.dst = some 13) (p0 : o0.op = .alloc 4)
    (p1 : o1.op = .store 4 (.tmp 12) (.const (.bool true))) (p2 : o2.op = .store 4 (.tmp 12) (.const (.bool false))) (p3 : o3.op = .load 4 (.tmp 12)) (g0 : o0.guard = none) (g1 : o1.guard = none) (g2 : o2.guard = none) (g3 : o3.guard = none)
    (r0 : Region.ready .any ops #[false, false, false, false] = [0]) (r1 : Region.ready .any ops #[true, false, false, false] = [1, 2]) (r2 : Region.ready .any ops #[true, true, false, false] = [2]) (r3 : Region.ready .any ops #[true, false, true, false] = [1])
    (r4 : Region.ready .any ops #[true, true, true, false] = [3]) (r5 : Region.ready .any ops #[true, true, true, true] = []) :
    CodeM Tryz.prog ⟨Tryz.f212.ntmps, keep⟩ (.region id ops true) (coinR 13 12) := by
  subst hops
  exact coin_right mixedP rfl rfl rfl rfl rfl d0 d1 d2 d3 p0 p1 p2 p3 g0 g1 g2 g3 r0 r1 r2 r3 r4 r5 (by kernel_rfl) (by kernel_rfl) (by decide) hk (show (13 : Nat) < 67 by decide) (show (12 : Nat) < 67 by decide)
theorem add_is (keep : Keep) (hk : keep 13 = true) : OrcOK Tryz.prog 212 (oTwo Tryz.prog addT keep Tryz.f212) := by
  refine two_right (T := addT) mixedP Tryz.func212 rfl Tryz.call212 ?_
  show Regs (fun id ops d => id = 3 → CodeM _ _ _ (coinR 13 12)) _
  repeat' first
    | exact trivial
    | refine And.intro ?_ ?_
    | exact fun h => absurd h (by decide)
    | (intro _; refine add_coin hk rfl rfl rfl rfl rfl rfl rfl rfl rfl rfl rfl rfl rfl ?_ ?_ ?_ ?_ ?_ ?_ <;> kernel_rfl)
end Go.Proofs.YtchkcnecgfolmaaGreatDoor.Ev
namespace Go.Proofs.YtchkcnecgfolmaaGreatDoor.Ev
open Go Go.Proofs Go.Shelf
set_option linter.unusedSectionVars false
variable [Sig]
set_option maxRecDepth 100000
def renF (n : Nat) : FuncId := match n with
  | 156 => 219
  | 165 => 357
  | 166 => 358
  | 169 => 359
  | 240 => 451
  | 241 => 452
  | 276 => 527
  | 277 => 528
  | _ => 0
def renT (n : Nat) : TypeId := match n with
  | 0 => 0
  | 3 => 3
  | 4 => 4
  | 5 => 5
  | 9 => 9
  | 20 => 20
  | 31 => 106
  | 37 => 313
  | 70 => 513
  | 72 => 515
  | 75 => 517
  | 76 => 518
  | 80 => 259
  | 127 => 598
  | 164 => 655
  | _ => 0
def renJ : Ren := ⟨renF, renT, fun x => x⟩
theorem laysJ : Lays.n156 Tryz.prog renJ where
  mixed := by kernel_rfl
  f156 := by kernel_rfl
  f165 := by kernel_rfl
  f166 := by kernel_rfl
  f169 := by kernel_rfl
  f240 := by kernel_rfl
  f241 := by kernel_rfl
  f276 := by kernel_rfl
  f277 := by kernel_rfl
  t0 := by kernel_rfl
  a0 := fun _ => by kernel_rfl
  z0 := fun _ => by kernel_rfl
  v0 := fun _ => by kernel_rfl
  t3 := by kernel_rfl
  a3 := fun _ => by kernel_rfl
  z3 := fun _ => by kernel_rfl
  v3 := fun _ => by kernel_rfl
  t4 := by kernel_rfl
  a4 := fun _ => by kernel_rfl
  z4 := fun _ => by kernel_rfl
  v4 := fun _ => by kernel_rfl
  t9 := by kernel_rfl
  a9 := fun _ => by kernel_rfl
  z9 := fun _ => by kernel_rfl
  v9 := fun _ => by kernel_rfl
  t20 := by kernel_rfl
  a20 := fun _ => by kernel_rfl
  z20 := fun _ => by kernel_rfl
  v20 := fun _ => by kernel_rfl
  t31 := by kernel_rfl
  a31 := fun _ => by kernel_rfl
  z31 := fun _ => by kernel_rfl
  v31 := fun _ => by kernel_rfl
  t37 := by kernel_rfl
  a37 := fun _ => by kernel_rfl
  z37 := fun _ => by kernel_rfl
  v37 := fun _ => by kernel_rfl
  t70 := by kernel_rfl
  a70 := fun _ => by kernel_rfl
  z70 := fun _ => by kernel_rfl
  v70 := fun _ => by kernel_rfl
  t72 := by kernel_rfl
  a72 := fun _ => by kernel_rfl
  z72 := fun _ => by kernel_rfl
  v72 := fun _ => by kernel_rfl
  t75 := by kernel_rfl
  a75 := fun _ => by kernel_rfl
  z75 := fun _ => by kernel_rfl
  v75 := fun _ => by kernel_rfl
  t76 := by kernel_rfl
  a76 := fun _ => by kernel_rfl
  z76 := fun _ => by kernel_rfl
  v76 := fun _ => by kernel_rfl
  t127 := by kernel_rfl
  a127 := fun _ => by kernel_rfl
  z127 := fun _ => by kernel_rfl
  v127 := fun _ => by kernel_rfl
  t164 := by kernel_rfl
  a164 := fun _ => by kernel_rfl
  z164 := fun _ => by kernel_rfl
  v164 := fun _ => by kernel_rfl
theorem extraJ : Builder.Extra Tryz.prog renJ where
  sizeBuilder := by kernel_rfl
  liesBuilder := by kernel_rfl
  t5 := by kernel_rfl
  a5 := fun _ => by kernel_rfl
  z5 := fun _ => by kernel_rfl
  v5 := fun _ => by kernel_rfl
  infoByte := by kernel_rfl
  cellsByte := by kernel_rfl
  sizeByte := by kernel_rfl
  neB5 := by decide

theorem joinA_ok {sep : List UInt8} : ∀ {l : List AVal} {x : List UInt8}, joinA sep l = some x → ∃ xs : List (List UInt8), l = xs.map AVal.str ∧ x = Lib.join xs sep
  | [], x, h => by cases h; exact ⟨[], rfl, rfl⟩
  | [.str b], x, h => by cases h; exact ⟨[b], rfl, (Lib.join_one b sep).symm⟩
  | .str b :: v :: l, x, h => by
    have h : (match joinA sep (v :: l) with | some r => some (b ++ (sep ++ r)) | none => none) = some x := h
    split at h
    · rename_i y hy
      cases h
      obtain ⟨xs, h1, h2⟩ := joinA_ok hy
      refine ⟨b :: xs, by rw [h1]; rfl, ?_⟩
      cases xs with
      | nil => cases h1
      | cons c xs =>
        rw [h2, Lib.join_cons, Lib.join_cons]
        show _ = b ++ ((sep ++ c) ++ Lib.joinTail sep xs)
        rw [List.append_assoc]
    · cases h
theorem VRs.strs {r : Rho} : ∀ {xs : List (List UInt8)} {us : List Value}, VRs r (xs.map AVal.str) us → us = xs.map fun l => Value.string ⟨⟨l⟩⟩
  | [], _, h => by cases h; rfl
  | x :: xs, _, h => by
    cases h with
    | cons h t => cases h; rw [VRs.strs t]; rfl
theorem Ext.below {r : Rho} {s : St} {w w' : World} (hr : Rel r s w) (h : Go.RowKit.Below w.heap.size w w') : Ext r s w r s w' :=
  (Ext.refl hr).grow h.block h.size h.os h.tape h.output
theorem join_right : OrcOK Tryz.prog 219 oJoin := by
  intro args s v s' h r w us hr hv
  have h : joinR args s = .ok v s' := h
  unfold joinR at h
  split at h
  · cases h
    cases hv with
    | cons h1 ht =>
      cases ht with
      | cons h2 ht =>
        cases ht
        cases h1
        cases h2
        rename_i sep
        exact .inr ⟨Tryz.call219 _ _, (Any.strings_Join_none laysJ extraJ none 0 ⟨⟨sep⟩⟩ w).mono fun e w' ⟨he, hw⟩ => ⟨_, he, r, by subst hw; exact Ext.refl hr, .str []⟩⟩
  · rename_i id off n c sep hne
    cases hv with
    | cons h1 ht =>
      cases ht with
      | cons h2 ht =>
        cases ht
        cases h2
        cases h1 with
        | @slice _ _ _ _ x cap hx hn hc hu =>
          unfold joinC at h
          split at h
          · rename_i cs e o hcs
            unfold strOut at h
            split at h
            · rename_i l hl
              cases h
              unfold joinO at hl
              split at hl
              · rename_i l' hsub
                obtain ⟨hlen, rfl⟩ := sub_eq hsub
                unfold fitO at hl
                split at hl
                · rename_i l2 hj
                  rcases sel_eq hl with ⟨g1, hl⟩ | ⟨_, hl⟩
                  · rcases sel_eq hl with ⟨g2, hl⟩ | ⟨_, hl⟩
                    · cases hl
                      obtain ⟨xs, h3, rfl⟩ := joinA_ok hj
                      obtain ⟨b, hb, hez, vs, rest, et, fr, rfl, hvs, hlen2, hop, hfz⟩ := hr.block _ _ x (cellsAt_ok hcs) hx
                      have hxs : xs.length = n := by
                        have := congrArg List.length h3
                        rw [List.length_map, List.length_take, List.length_drop] at this
                        omega
                      have hvl := hvs.length
                      have hst := VRs.strs (h3 ▸ (hvs.drop off).take n)
                      have hdat : (xs.map fun l => (⟨⟨l⟩⟩ : ByteArray)).map (·.data.toList) = xs := by rw [List.map_map]; exact List.map_id _
                      refine .inr ⟨Tryz.call219 _ _, ?_⟩
                      have hc := Any.strings_Join laysJ extraJ x.blk off cap (xs.map fun l => (⟨⟨l⟩⟩ : ByteArray)) ⟨⟨sep⟩⟩ w (fun j y hy => ?_) (Array.getElem?_eq_some_iff.1 hb).1 (by rw [List.length_map]; have := Nat.le_of_ble_eq_true g2; omega) (by rw [List.length_map]; omega)
                        (by rw [hdat]; have := Nat.le_of_ble_eq_true g1; exact Nat.le_trans this (by decide))
                      · rw [List.length_map, hxs, hdat] at hc
                        exact hc.mono fun e w' ⟨he, hw⟩ => ⟨_, he, r, Ext.below hr hw, .str _⟩
                      · rw [cell_of hb]
                        have hjl : j < n := by
                          have := (List.getElem?_eq_some_iff.1 hy).1
                          rw [List.length_map] at this
                          omega
                        have h4 : ((vs.drop off).take n)[j]? = some (.string y) := by
                          rw [hst, List.getElem?_map]
                          rw [List.getElem?_map] at hy
                          cases hq : xs[j]? with
                          | none => rw [hq] at hy; cases hy
                          | some z => rw [hq] at hy; cases hy; rfl
                        rw [List.getElem?_take_of_lt hjl, List.getElem?_drop] at h4
                        rw [List.getElem?_append_left (by omega)]
                        exact h4
                    · cases hl
                  · cases hl
                · cases hl
              · cases hl
            · cases h
          · cases h
  · cases h
end Go.Proofs.YtchkcnecgfolmaaGreatDoor.Ev
namespace Go.Proofs.YtchkcnecgfolmaaGreatDoor.Ev
open Go Go.Proofs Go.Shelf Go.Sort Go.Maps
set_option linter.unusedSectionVars false
set_option linter.unusedVariables false
set_option maxRecDepth 100000
variable [Sig]
def renFK (n : Nat) : FuncId := match n with
  | 0 => 0
  | 1 => 1
  | 2 => 2
  | 6 => 395
  | 7 => 396
  | 8 => 474
  | 9 => 96
  | 10 => 475
  | 11 => 542
  | 12 => 155
  | 13 => 76
  | 14 => 259
  | 15 => 260
  | 16 => 261
  | 17 => 262
  | 18 => 263
  | 19 => 264
  | 20 => 265
  | 21 => 266
  | 22 => 267
  | 23 => 134
  | 24 => 135
  | 25 => 374
  | 26 => 206
  | 27 => 207
  | 28 => 375
  | 29 => 376
  | 30 => 77
  | 31 => 464
  | 32 => 629
  | 33 => 630
  | 34 => 631
  | 35 => 632
  | 36 => 633
  | 37 => 634
  | 38 => 635
  | 39 => 636
  | 40 => 637
  | 41 => 638
  | 42 => 639
  | 43 => 640
  | 44 => 641
  | 45 => 642
  | 46 => 643
  | 47 => 660
  | _ => 0
def renTK (n : Nat) : TypeId := match n with
  | 0 => 0
  | 1 => 1
  | 2 => 2
  | 3 => 421
  | 4 => 4
  | 5 => 5
  | 6 => 6
  | 7 => 7
  | 8 => 8
  | 9 => 9
  | 10 => 10
  | 11 => 11
  | 12 => 12
  | 13 => 13
  | 14 => 14
  | 15 => 15
  | 16 => 16
  | 17 => 17
  | 18 => 18
  | 19 => 19
  | 20 => 20
  | 21 => 21
  | 23 => 416
  | 24 => 106
  | 25 => 549
  | 26 => 9
  | 27 => 550
  | 28 => 551
  | 29 => 552
  | 32 => 217
  | 33 => 191
  | 34 => 666
  | 35 => 304
  | 36 => 195
  | 37 => 196
  | 38 => 401
  | 39 => 267
  | 40 => 268
  | 41 => 402
  | 42 => 403
  | 43 => 404
  | 44 => 405
  | 45 => 192
  | 46 => 406
  | 47 => 273
  | 48 => 274
  | 49 => 275
  | 50 => 276
  | 51 => 341
  | 52 => 342
  | 53 => 343
  | 54 => 531
  | 55 => 345
  | 56 => 532
  | 57 => 500
  | 58 => 501
  | 59 => 607
  | 60 => 259
  | 61 => 730
  | 62 => 731
  | 63 => 732
  | 64 => 733
  | 65 => 734
  | 66 => 258
  | 67 => 735
  | 68 => 736
  | 69 => 737
  | 70 => 598
  | 71 => 738
  | 72 => 739
  | 73 => 740
  | 74 => 741
  | 75 => 655
  | _ => 0
def renK : Ren := ⟨renFK, renTK, fun x => x⟩
theorem laysK : SlLaysZ.n10 Tryz.prog renK where
  mixed := by kernel_rfl
  f10 := ⟨Tryz.f475.name, by kernel_rfl, by kernel_rfl⟩
  t0 := by kernel_rfl
  a0 := fun _ => by kernel_rfl
  z0 := fun _ => by kernel_rfl
  v0 := fun _ => by kernel_rfl
  t4 := by kernel_rfl
  a4 := fun _ => by kernel_rfl
  z4 := fun _ => by kernel_rfl
  v4 := fun _ => by kernel_rfl
  t23 := by kernel_rfl
  a23 := fun _ => by kernel_rfl
  z23 := fun _ => by kernel_rfl
  v23 := fun _ => by kernel_rfl
  t26 := by kernel_rfl
  a26 := fun _ => by kernel_rfl
  z26 := fun _ => by kernel_rfl
  v26 := fun _ => by kernel_rfl
  t33 := by kernel_rfl
  a33 := fun _ => by kernel_rfl
  z33 := fun _ => by kernel_rfl
  v33 := fun _ => by kernel_rfl
def renFS (n : Nat) : FuncId := match n with
  | 0 => 0
  | 1 => 1
  | 2 => 2
  | 6 => 395
  | 8 => 474
  | 9 => 96
  | 11 => 542
  | 12 => 155
  | 13 => 76
  | 14 => 259
  | 15 => 260
  | 16 => 261
  | 17 => 262
  | 18 => 263
  | 19 => 264
  | 20 => 265
  | 21 => 266
  | 22 => 267
  | 23 => 134
  | 24 => 135
  | 25 => 374
  | 26 => 206
  | 27 => 207
  | 28 => 375
  | 29 => 376
  | 30 => 77
  | 31 => 464
  | 32 => 629
  | 33 => 630
  | 34 => 631
  | 35 => 632
  | 36 => 633
  | 37 => 634
  | 38 => 635
  | 39 => 636
  | 40 => 637
  | 41 => 638
  | 42 => 639
  | 43 => 640
  | 44 => 641
  | 45 => 642
  | 46 => 643
  | 47 => 660
  | _ => 0
def renTS (n : Nat) : TypeId := match n with
  | 0 => 0
  | 1 => 1
  | 2 => 2
  | 3 => 3
  | 4 => 4
  | 5 => 5
  | 6 => 6
  | 7 => 7
  | 8 => 8
  | 9 => 9
  | 10 => 10
  | 11 => 11
  | 12 => 12
  | 13 => 13
  | 14 => 14
  | 15 => 15
  | 16 => 16
  | 17 => 17
  | 18 => 18
  | 19 => 19
  | 20 => 20
  | 21 => 21
  | 24 => 106
  | 25 => 549
  | 26 => 9
  | 27 => 550
  | 28 => 551
  | 32 => 217
  | 33 => 191
  | 34 => 666
  | 35 => 304
  | 36 => 195
  | 37 => 196
  | 38 => 401
  | 39 => 267
  | 40 => 268
  | 41 => 402
  | 42 => 403
  | 43 => 404
  | 44 => 405
  | 45 => 192
  | 46 => 406
  | 47 => 273
  | 48 => 274
  | 49 => 275
  | 50 => 276
  | 51 => 341
  | 52 => 342
  | 53 => 343
  | 54 => 531
  | 55 => 345
  | 56 => 532
  | 57 => 500
  | 58 => 501
  | 59 => 607
  | 60 => 259
  | 61 => 730
  | 62 => 731
  | 63 => 732
  | 64 => 733
  | 65 => 734
  | 66 => 258
  | 67 => 735
  | 68 => 736
  | 69 => 737
  | 70 => 598
  | 71 => 738
  | 72 => 739
  | 73 => 740
  | 74 => 741
  | 75 => 655
  | _ => 0
def renS : Ren := ⟨renFS, renTS, fun x => x⟩
theorem laysS : SlLaysZ.n6 Tryz.prog renS where
  mixed := by kernel_rfl
  f6 := ⟨Tryz.f395.name, by kernel_rfl, by kernel_rfl⟩
  f8 := ⟨Tryz.f474.name, by kernel_rfl, by kernel_rfl⟩
  f11 := ⟨Tryz.f542.name, by kernel_rfl, by kernel_rfl⟩
  t0 := by kernel_rfl
  a0 := fun _ => by kernel_rfl
  z0 := fun _ => by kernel_rfl
  v0 := fun _ => by kernel_rfl
  t24 := by kernel_rfl
  a24 := fun _ => by kernel_rfl
  z24 := fun _ => by kernel_rfl
  v24 := fun _ => by kernel_rfl
  t26 := by kernel_rfl
  a26 := fun _ => by kernel_rfl
  z26 := fun _ => by kernel_rfl
  v26 := fun _ => by kernel_rfl
  t28 := by kernel_rfl
  a28 := fun _ => by kernel_rfl
  z28 := fun _ => by kernel_rfl
  v28 := fun _ => by kernel_rfl
  i26 := by kernel_rfl
def renFO (n : Nat) : FuncId := match n with
  | 0 => 0
  | 1 => 1
  | 2 => 2
  | 6 => 96
  | 8 => 76
  | 9 => 155
  | 19 => 134
  | 20 => 135
  | 21 => 259
  | 22 => 260
  | 23 => 261
  | 24 => 262
  | 25 => 263
  | 26 => 264
  | 27 => 265
  | 28 => 266
  | 29 => 267
  | 31 => 206
  | 32 => 207
  | 36 => 374
  | 37 => 375
  | 38 => 376
  | 39 => 77
  | 41 => 464
  | 42 => 629
  | 43 => 630
  | 44 => 631
  | 45 => 632
  | 46 => 633
  | 47 => 634
  | 48 => 635
  | 49 => 636
  | 50 => 637
  | 51 => 638
  | 52 => 639
  | 53 => 640
  | 54 => 641
  | 55 => 642
  | 56 => 643
  | 57 => 660
  | _ => 0
def renTO (n : Nat) : TypeId := match n with
  | 0 => 0
  | 1 => 1
  | 2 => 2
  | 3 => 3
  | 4 => 4
  | 5 => 5
  | 6 => 6
  | 7 => 7
  | 8 => 8
  | 9 => 9
  | 10 => 10
  | 11 => 11
  | 12 => 12
  | 13 => 13
  | 14 => 14
  | 15 => 15
  | 16 => 16
  | 17 => 17
  | 18 => 18
  | 19 => 19
  | 20 => 20
  | 21 => 21
  | 26 => 106
  | 27 => 106
  | 28 => 217
  | 29 => 9
  | 31 => 195
  | 32 => 196
  | 33 => 304
  | 35 => 267
  | 36 => 268
  | 41 => 192
  | 43 => 273
  | 44 => 274
  | 45 => 275
  | 46 => 276
  | 47 => 401
  | 48 => 402
  | 49 => 403
  | 50 => 404
  | 51 => 405
  | 52 => 406
  | 53 => 341
  | 54 => 342
  | 55 => 343
  | 57 => 345
  | 60 => 531
  | 61 => 532
  | 62 => 191
  | 63 => 500
  | 64 => 501
  | 66 => 607
  | 67 => 259
  | 68 => 730
  | 69 => 731
  | 70 => 732
  | 71 => 733
  | 72 => 734
  | 73 => 258
  | 74 => 735
  | 75 => 736
  | 76 => 737
  | 77 => 598
  | 78 => 738
  | 79 => 739
  | 80 => 740
  | 81 => 741
  | 82 => 655
  | _ => 0
def renO : Ren := ⟨renFO, renTO, fun x => x⟩
theorem laysO : SlLaysM.n6 Tryz.prog renO where
  mixed := by kernel_rfl
  f6 := ⟨Tryz.f96.name, by kernel_rfl, by kernel_rfl⟩
  f8 := by kernel_rfl
  f9 := ⟨Tryz.f155.name, by kernel_rfl, by kernel_rfl⟩
  f19 := by kernel_rfl
  f20 := by kernel_rfl
  f21 := ⟨Tryz.f259.name, by kernel_rfl, by kernel_rfl⟩
  f22 := ⟨Tryz.f260.name, by kernel_rfl, by kernel_rfl⟩
  f23 := ⟨Tryz.f261.name, by kernel_rfl, by kernel_rfl⟩
  f24 := ⟨Tryz.f262.name, by kernel_rfl, by kernel_rfl⟩
  f25 := ⟨Tryz.f263.name, by kernel_rfl, by kernel_rfl⟩
  f26 := ⟨Tryz.f264.name, by kernel_rfl, by kernel_rfl⟩
  f27 := ⟨Tryz.f265.name, by kernel_rfl, by kernel_rfl⟩
  f28 := ⟨Tryz.f266.name, by kernel_rfl, by kernel_rfl⟩
  f29 := ⟨Tryz.f267.name, by kernel_rfl, by kernel_rfl⟩
  f31 := by kernel_rfl
  f32 := by kernel_rfl
  f36 := ⟨Tryz.f374.name, by kernel_rfl, by kernel_rfl⟩
  f37 := ⟨Tryz.f375.name, by kernel_rfl, by kernel_rfl⟩
  f38 := ⟨Tryz.f376.name, by kernel_rfl, by kernel_rfl⟩
  f39 := ⟨Tryz.f77.name, by kernel_rfl, by kernel_rfl⟩
  f41 := ⟨Tryz.f464.name, by kernel_rfl, by kernel_rfl⟩
  t0 := by kernel_rfl
  a0 := fun _ => by kernel_rfl
  z0 := fun _ => by kernel_rfl
  v0 := fun _ => by kernel_rfl
  t3 := by kernel_rfl
  a3 := fun _ => by kernel_rfl
  z3 := fun _ => by kernel_rfl
  v3 := fun _ => by kernel_rfl
  t4 := by kernel_rfl
  a4 := fun _ => by kernel_rfl
  z4 := fun _ => by kernel_rfl
  v4 := fun _ => by kernel_rfl
  t5 := by kernel_rfl
  a5 := fun _ => by kernel_rfl
  z5 := fun _ => by kernel_rfl
  v5 := fun _ => by kernel_rfl
  t9 := by kernel_rfl
  a9 := fun _ => by kernel_rfl
  z9 := fun _ => by kernel_rfl
  v9 := fun _ => by kernel_rfl
  t26 := by kernel_rfl
  a26 := fun _ => by kernel_rfl
  z26 := fun _ => by kernel_rfl
  v26 := fun _ => by kernel_rfl
  t27 := by kernel_rfl
  a27 := fun _ => by kernel_rfl
  z27 := fun _ => by kernel_rfl
  v27 := fun _ => by kernel_rfl
  t29 := by kernel_rfl
  a29 := fun _ => by kernel_rfl
  z29 := fun _ => by kernel_rfl
  v29 := fun _ => by kernel_rfl
  t32 := by kernel_rfl
  a32 := fun _ => by kernel_rfl
  z32 := fun _ => by kernel_rfl
  v32 := fun _ => by kernel_rfl
  t35 := by kernel_rfl
  a35 := fun _ => by kernel_rfl
  z35 := fun _ => by kernel_rfl
  v35 := fun _ => by kernel_rfl
  t36 := by kernel_rfl
  a36 := fun _ => by kernel_rfl
  z36 := fun _ => by kernel_rfl
  v36 := fun _ => by kernel_rfl
  t41 := by kernel_rfl
  a41 := fun _ => by kernel_rfl
  z41 := fun _ => by kernel_rfl
  v41 := fun _ => by kernel_rfl
  t44 := by kernel_rfl
  a44 := fun _ => by kernel_rfl
  z44 := fun _ => by kernel_rfl
  v44 := fun _ => by kernel_rfl
  t46 := by kernel_rfl
  a46 := fun _ => by kernel_rfl
  z46 := fun _ => by kernel_rfl
  v46 := fun _ => by kernel_rfl
  t53 := by kernel_rfl
  a53 := fun _ => by kernel_rfl
  z53 := fun _ => by kernel_rfl
  v53 := fun _ => by kernel_rfl
  t57 := by kernel_rfl
  a57 := fun _ => by kernel_rfl
  z57 := fun _ => by kernel_rfl
  v57 := fun _ => by kernel_rfl
  t63 := by kernel_rfl
  a63 := fun _ => by kernel_rfl
  z63 := fun _ => by kernel_rfl
  v63 := fun _ => by kernel_rfl
  t64 := by kernel_rfl
  a64 := fun _ => by kernel_rfl
  z64 := fun _ => by kernel_rfl
  v64 := fun _ => by kernel_rfl
def renFKI (n : Nat) : FuncId := match n with
  | 0 => 0
  | 1 => 1
  | 2 => 2
  | 6 => 565
  | 7 => 566
  | 8 => 598
  | 9 => 599
  | 10 => 600
  | 11 => 611
  | 12 => 612
  | 13 => 76
  | 14 => 616
  | 15 => 617
  | 16 => 618
  | 17 => 619
  | 18 => 620
  | 19 => 621
  | 20 => 622
  | 21 => 623
  | 22 => 624
  | 23 => 134
  | 24 => 135
  | 25 => 625
  | 26 => 206
  | 27 => 207
  | 28 => 626
  | 29 => 627
  | 30 => 587
  | 31 => 628
  | 32 => 629
  | 33 => 630
  | 34 => 631
  | 35 => 632
  | 36 => 633
  | 37 => 634
  | 38 => 635
  | 39 => 636
  | 40 => 637
  | 41 => 638
  | 42 => 639
  | 43 => 640
  | 44 => 641
  | 45 => 642
  | 46 => 643
  | 47 => 660
  | _ => 0
def renTKI (n : Nat) : TypeId := match n with
  | 0 => 0
  | 1 => 1
  | 2 => 2
  | 3 => 3
  | 4 => 4
  | 5 => 5
  | 6 => 6
  | 7 => 7
  | 8 => 8
  | 9 => 9
  | 10 => 10
  | 11 => 11
  | 12 => 12
  | 13 => 13
  | 14 => 14
  | 15 => 15
  | 16 => 16
  | 17 => 17
  | 18 => 18
  | 19 => 19
  | 20 => 20
  | 21 => 21
  | 22 => 246
  | 23 => 246
  | 24 => 124
  | 25 => 682
  | 26 => 3
  | 27 => 683
  | 28 => 684
  | 29 => 685
  | 32 => 704
  | 33 => 257
  | 34 => 715
  | 35 => 716
  | 36 => 195
  | 37 => 196
  | 38 => 722
  | 39 => 267
  | 40 => 268
  | 41 => 723
  | 42 => 724
  | 43 => 51
  | 44 => 725
  | 45 => 192
  | 46 => 726
  | 47 => 273
  | 48 => 274
  | 49 => 275
  | 50 => 276
  | 51 => 341
  | 52 => 342
  | 53 => 343
  | 54 => 727
  | 55 => 345
  | 56 => 728
  | 57 => 500
  | 58 => 501
  | 59 => 729
  | 60 => 259
  | 61 => 730
  | 62 => 731
  | 63 => 732
  | 64 => 733
  | 65 => 734
  | 66 => 258
  | 67 => 735
  | 68 => 736
  | 69 => 737
  | 70 => 598
  | 71 => 738
  | 72 => 739
  | 73 => 740
  | 74 => 741
  | 75 => 655
  | _ => 0
def renKI : Ren := ⟨renFKI, renTKI, fun x => x⟩
theorem laysKI : SlLaysZI.n10 Tryz.prog renKI where
  mixed := by kernel_rfl
  f10 := ⟨Tryz.f600.name, by kernel_rfl, by kernel_rfl⟩
  t0 := by kernel_rfl
  a0 := fun _ => by kernel_rfl
  z0 := fun _ => by kernel_rfl
  v0 := fun _ => by kernel_rfl
  t4 := by kernel_rfl
  a4 := fun _ => by kernel_rfl
  z4 := fun _ => by kernel_rfl
  v4 := fun _ => by kernel_rfl
  t23 := by kernel_rfl
  a23 := fun _ => by kernel_rfl
  z23 := fun _ => by kernel_rfl
  v23 := fun _ => by kernel_rfl
  t26 := by kernel_rfl
  a26 := fun _ => by kernel_rfl
  z26 := fun _ => by kernel_rfl
  v26 := fun _ => by kernel_rfl
  t33 := by kernel_rfl
  a33 := fun _ => by kernel_rfl
  z33 := fun _ => by kernel_rfl
  v33 := fun _ => by kernel_rfl
def renFCI (n : Nat) : FuncId := match n with
  | 0 => 0
  | 1 => 1
  | 2 => 2
  | 6 => 565
  | 8 => 598
  | 9 => 599
  | 11 => 611
  | 12 => 612
  | 13 => 76
  | 14 => 616
  | 15 => 617
  | 16 => 618
  | 17 => 619
  | 18 => 620
  | 19 => 621
  | 20 => 622
  | 21 => 623
  | 22 => 624
  | 23 => 134
  | 24 => 135
  | 25 => 625
  | 26 => 206
  | 27 => 207
  | 28 => 626
  | 29 => 627
  | 30 => 587
  | 31 => 628
  | 32 => 629
  | 33 => 630
  | 34 => 631
  | 35 => 632
  | 36 => 633
  | 37 => 634
  | 38 => 635
  | 39 => 636
  | 40 => 637
  | 41 => 638
  | 42 => 639
  | 43 => 640
  | 44 => 641
  | 45 => 642
  | 46 => 643
  | 47 => 660
  | _ => 0
def renTCI (n : Nat) : TypeId := match n with
  | 0 => 0
  | 1 => 1
  | 2 => 2
  | 3 => 3
  | 4 => 4
  | 5 => 5
  | 6 => 6
  | 7 => 7
  | 8 => 8
  | 9 => 9
  | 10 => 10
  | 11 => 11
  | 12 => 12
  | 13 => 13
  | 14 => 14
  | 15 => 15
  | 16 => 16
  | 17 => 17
  | 18 => 18
  | 19 => 19
  | 20 => 20
  | 21 => 21
  | 22 => 246
  | 24 => 124
  | 25 => 682
  | 26 => 3
  | 27 => 683
  | 28 => 684
  | 32 => 704
  | 33 => 257
  | 34 => 715
  | 35 => 716
  | 36 => 195
  | 37 => 196
  | 38 => 722
  | 39 => 267
  | 40 => 268
  | 41 => 723
  | 42 => 724
  | 43 => 51
  | 44 => 725
  | 45 => 192
  | 46 => 726
  | 47 => 273
  | 48 => 274
  | 49 => 275
  | 50 => 276
  | 51 => 341
  | 52 => 342
  | 53 => 343
  | 54 => 727
  | 55 => 345
  | 56 => 728
  | 57 => 500
  | 58 => 501
  | 59 => 729
  | 60 => 259
  | 61 => 730
  | 62 => 731
  | 63 => 732
  | 64 => 733
  | 65 => 734
  | 66 => 258
  | 67 => 735
  | 68 => 736
  | 69 => 737
  | 70 => 598
  | 71 => 738
  | 72 => 739
  | 73 => 740
  | 74 => 741
  | 75 => 655
  | _ => 0
def renCI : Ren := ⟨renFCI, renTCI, fun x => x⟩
theorem laysCI : SlLaysZI.n8 Tryz.prog renCI where
  mixed := by kernel_rfl
  f8 := ⟨Tryz.f598.name, by kernel_rfl, by kernel_rfl⟩
  f11 := ⟨Tryz.f611.name, by kernel_rfl, by kernel_rfl⟩
  t0 := by kernel_rfl
  a0 := fun _ => by kernel_rfl
  z0 := fun _ => by kernel_rfl
  v0 := fun _ => by kernel_rfl
  t24 := by kernel_rfl
  a24 := fun _ => by kernel_rfl
  z24 := fun _ => by kernel_rfl
  v24 := fun _ => by kernel_rfl
  t26 := by kernel_rfl
  a26 := fun _ => by kernel_rfl
  z26 := fun _ => by kernel_rfl
  v26 := fun _ => by kernel_rfl
  t28 := by kernel_rfl
  a28 := fun _ => by kernel_rfl
  z28 := fun _ => by kernel_rfl
  v28 := fun _ => by kernel_rfl
  i26 := by kernel_rfl
theorem sorts_is (m : Nat) : AnyZ.SortsIn Tryz.prog renS Fence.wide m :=
  ⟨fun blk off cap ss W hH hblk hsz => callsIn_wide.2 (AnyM.slices_Sort_string laysO blk off cap ss W hH hblk hsz), fun p cap W => callsIn_wide.2 (AnyM.slices_Sort_string_none laysO p cap W)⟩
theorem sorted_is : OrcOK Tryz.prog 395 (oSorted 475) := by
  refine sorted_right Tryz.func395 (by kernel_rfl) rfl (k := 9) (by kernel_rfl) fun Bm m n D0 w hBm hm hown hsz => ?_
  have hseq : SeqGives Fence.wide 2 Tryz.prog 475 #[.pointer (some ⟨Bm, 0, none⟩)] encStr (fun ss => ss.Perm (strKeys D0)) (Maps.size D0) w :=
    AnyZ.keys_gives (ρ := renK) laysK Fence.wide _ trivial rfl (by omega) Bm m n D0 w hBm hm hown
  exact callsIn_wide.1 (AnyZ.sorted_in laysS Fence.wide 5 trivial trivial trivial trivial rfl (by omega) (sorts_is _) (enters_of Tryz.func96 (by kernel_rfl) rfl) 475 #[.pointer (some ⟨Bm, 0, none⟩)] trivial
    (enters_of Tryz.func475 (by kernel_rfl) rfl) _ (Maps.size D0) (Nat.le_trans hsz (by decide)) (by omega) w hseq)
theorem coll_is : OrcOK Tryz.prog 598 (oColl 600) := by
  refine coll_right Tryz.func598 (by kernel_rfl) rfl (k := 3) (by kernel_rfl) fun Bm m n D0 w hBm hm hown hsz => ?_
  have hseq : SeqGives Fence.wide 2 Tryz.prog 600 #[.pointer (some ⟨Bm, 0, none⟩)] encZ (fun ss => ss.Perm (intKeys D0)) (Maps.size D0) w :=
    AnyZI.keys_gives (ρ := renKI) laysKI Fence.wide _ trivial rfl (by omega) Bm m n D0 w hBm hm hown
  exact callsIn_wide.1 (AnyZI.collect_in laysCI Fence.wide 4 trivial trivial rfl (by omega) 600 #[.pointer (some ⟨Bm, 0, none⟩)] trivial
    (enters_of Tryz.func600 (by kernel_rfl) rfl) _ (Maps.size D0) (Nat.le_trans hsz (by decide)) (by omega) w hseq)
end Go.Proofs.YtchkcnecgfolmaaGreatDoor.Ev
namespace Go.Proofs.YtchkcnecgfolmaaGreatDoor.Ev
open Go Go.Proofs
set_option linter.unusedSectionVars false
set_option linter.unusedVariables false
set_option maxRecDepth 100000
variable [Sig]
theorem fn_add : fnD (fnT.get 212) = Tryz.f212 := by kernel_rfl
theorem fn_add64 : fnD (fnT.get 586) = Tryz.f586 := by kernel_rfl
theorem fn_sub64 : fnD (fnT.get 585) = Tryz.f585 := by kernel_rfl
theorem fn_trunc : fnD (fnT.get 536) = Tryz.f536 := by kernel_rfl
theorem keep_add : keepT 212 13 = true := by kernel_rfl
theorem OL_ok : ∀ x ∈ OL, OrcOK Tryz.prog x.1 x.2 := by
  intro x hx
  have hx : x ∈ [(NN.join, oJoin), (NN.add, oTwo Tryz.prog ⟨NN.add, 3, 13, 12, addIds⟩ (keepT NN.add) (fnD (fnT.get NN.add))), (NN.sort1, oSorted NN.keys1), (NN.coll2, oColl NN.keys2), (NN.clone, oClone), (NN.add64, oCarry false (oPure Tryz.prog (fnD (fnT.get NN.add64)))),
    (NN.sub64, oCarry true (oPure Tryz.prog (fnD (fnT.get NN.sub64)))), (NN.trunc, oPure Tryz.prog (fnD (fnT.get NN.trunc))), (NN.mul64, oMul)] := hx
  simp only [List.mem_cons, List.not_mem_nil, or_false] at hx
  rcases hx with rfl | rfl | rfl | rfl | rfl | rfl | rfl | rfl | rfl
  · exact join_right
  · have h := add_is (keepT 212) keep_add
    rw [← fn_add] at h
    exact h
  · exact sorted_is
  · exact coll_is
  · exact clone_is
  · have h := add64_is
    rw [← fn_add64] at h
    exact h
  · have h := sub64_is
    rw [← fn_sub64] at h
    exact h
  · have h := trunc_is
    rw [← fn_trunc] at h
    exact h
  · exact mul_is
/-- a base with these texts, whatever functions are known otherwise, if they are right -/
theorem base_ok {L : List (Nat × Orc)} (hL : ∀ x ∈ L, OrcOK Tryz.prog x.1 x.2) : BaseOK Tryz.prog { fn := fun f => fnT.get f, keep := keepT, reg := fun _ _ => none, orc := fun f => (putL L .lf).get f } :=
  ⟨fun f fn h => fnT_ok f fn h, fun f fn b _ _ => Regs.all (fun _ _ _ g hg => by cases hg) b, fun f g h => hL (f, g) (putL_in h)⟩
theorem B0_ok : BaseOK Tryz.prog B0 := base_ok OL_ok
end Go.Proofs.YtchkcnecgfolmaaGreatDoor.Ev
namespace Go.Proofs.YtchkcnecgfolmaaGreatDoor.Ev
open Go Go.Proofs Go.RowKit
set_option linter.unusedSectionVars false
set_option linter.unusedVariables false
/-- a number brought into 0 .. 1000 -/
def win (n : Int) : Int := if n.tmod 1001 < 0 then n.tmod 1001 + 1001 else n.tmod 1001
theorem win_in (n : Int) : 0 ≤ win n ∧ win n ≤ 1000 := by
  have b1 : -1001 < n.tmod 1001 := Int.lt_tmod_of_pos n (by omega)
  have b2 : n.tmod 1001 < 1001 := Int.tmod_lt_of_pos n (by omega)
  unfold win
  by_cases h : n.tmod 1001 < 0
  · rw [if_pos h]; omega
  · rw [if_neg h]; omega
theorem within_calls (n : Int) (w : World) (n0 : -9223372036854775808 ≤ n) (n1 : n ≤ 9223372036854775807) :
    Calls Tryz.prog 11 #[.int .i64 n, .int .i64 0, .int .i64 1000] w fun e w' => e = .returned (.int .i64 (win n)) ∧ w' = w := by
  have b1 : -1001 < n.tmod 1001 := Int.lt_tmod_of_pos n (by omega)
  have b2 : n.tmod 1001 < 1001 := Int.tmod_lt_of_pos n (by omega)
  unfold win
  obtain ⟨r, hr⟩ : ∃ r, n.tmod 1001 = r := ⟨_, rfl⟩
  rw [hr] at b1 b2 ⊢
  by_cases hn : r < 0
  · rw [if_pos hn]
    go_enter Tryz.func11, Tryz.ntmps11
    go_wp2_with fail
    go_ret
    exact ⟨by simp; omega, rfl⟩
  · rw [if_neg hn]
    go_enter Tryz.func11, Tryz.ntmps11
    go_wp2_with fail
    go_ret
    exact ⟨by simp, rfl⟩
variable [Sig]
theorem isNum_ok {r : Rho} {n : Nat} {v : AVal} (h : isNum n v = true) {u : Value} (hv : VR r v u) : u = .int .i64 n := by
  unfold isNum at h
  split at h
  · obtain ⟨h1, h2⟩ := sel_both h
    have h1 := keq_eq h1
    rw [ieq_eq] at h2
    have h2 := eq_of_beq h2
    subst h1 h2
    cases hv
    rfl
  · cases h
theorem within_is {p q : AVal} (hp : ∀ r, VR r p (.int .i64 (win (Sig.arg true)))) (hq : ∀ r, VR r q (.int .i64 (win (Sig.arg false)))) (ha : ∀ b, -9223372036854775808 ≤ Sig.arg b ∧ Sig.arg b ≤ 9223372036854775807) :
    OrcOK Tryz.prog 11 (oWithin p q) := by
  intro args s v s' h r w us hr hv
  have h : withinR p q args s = .ok v s' := h
  unfold withinR at h
  split at h
  · rename_i b x y hold
    obtain ⟨h1, h⟩ := selR_good h
    obtain ⟨h2, h⟩ := selR_good h
    cases h
    cases hv with
    | cons e1 hv => cases hv with
      | cons e2 hv => cases hv with
        | cons e3 hv =>
          cases hv
          cases e1 with
          | raw hn =>
            have h1 := isNum_ok h1 e2
            have h2 := isNum_ok h2 e3
            subst h1 h2 hn
            refine .inr ⟨Tryz.call11 _ _, (within_calls _ w (ha b).1 (ha b).2).mono ?_⟩
            rintro e w' ⟨rfl, rfl⟩
            refine ⟨_, rfl, r, Ext.refl hr, ?_⟩
            cases b
            · exact hq r
            · exact hp r
  · cases h
end Go.Proofs.YtchkcnecgfolmaaGreatDoor.Ev
namespace Go.Proofs.YtchkcnecgfolmaaGreatDoor.Ev
open Go Go.Proofs
set_option maxRecDepth 1000000
set_option linter.unusedVariables false
set_option linter.unusedSectionVars false
noncomputable def MO : FuncId → Bool := fun f => hasN f [38, 288, 394, 168]
end Go.Proofs.YtchkcnecgfolmaaGreatDoor.Ev
